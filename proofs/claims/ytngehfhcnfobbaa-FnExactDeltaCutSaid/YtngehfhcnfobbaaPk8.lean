/- Lemmas for it, part 8. No condition. -/
import Derived.Conc.Events
import Derived.Test.YtngehfhcnfobbaaProg
import Derived.Test.YtngehfhcnfobbaaPk7
namespace Go.Proofs.Ytngehfhcnfobbaa
open Go Go.RowKit

theorem dl_short {d : Dl} {j : Nat} {r : Rt} (hd : d.tell[j]? = some r) (h : Sz.sz d ≤ 1048576) : r.path.length ≤ 1048576 ∧ r.marks.length ≤ 1048576 := by
  have h1 := sz_at hd
  have h2 : Sz.sz r.path = r.path.length := szL_flat r.path fun _ => rfl
  have h3 : Sz.sz r.marks = r.marks.length := szL_flat r.marks fun _ => rfl
  have h4 : Sz.sz r = Sz.sz r.path + Sz.sz r.marks := by simp [Sz.sz]
  have h5 : Sz.sz d = Sz.sz d.drop + Sz.sz d.tell := by simp [Sz.sz]
  omega

set_option maxRecDepth 40000 in
set_option maxHeartbeats 8000000 in
theorem kid_tell (d : Dl) (B X N : Nat) (m : Int) (j : Nat) (a1 : Option Addr) (n1 c1 : Nat) (a2 : Option Addr) (n2 c2 : Nat) (p1 : Option Addr) (q1 r1 : Nat) (p2 : Option Addr) (q2 r2 : Nat) (L1 : List Rg) (L2 : List Rt) (xs : List Value) (L : List Dl) (fps2 fps : List (List Nat)) (w wr : World)
    (z0 y3 y4 y5 y8 y9 y10 y11 y12 y13 y14 y15 y16 y17 y18 y19 y20 y21 y22 y23 y24 y25 y26 y27 y28 y29 y30 y31 y32 y33 y34 y35 y36 y37 y38 y39 y40 y41 y42 y43 y44 y45 y46 y47 y48 y49 y50 y51 : Value) (h1 : SlRd w a1 n1 c1 d.drop) (h2 : SlRd w a2 n2 c2 d.tell) (hB : Blf w B 32 [.slice a1 n1 c1, .slice a2 n2 c2]) (hX : w.heap.size ≤ X) (hN : N = X + 1) (hE : Ext w wr) (hXB : Blk wr X 32 [.slice p1 q1 r1, .slice p2 q2 r2]) (hC : CI N X wr (.slice p1 q1 r1) (.slice p2 q2 r2) L1 L2 xs L fps2 fps) (hl : L1.length + L2.length ≤ 3) (hj : j < n2) (hz : Sz.sz d ≤ 1048576)
    (Q : Act → World → Prop)
    (hcont : ∀ r, d.tell[j]? = some r → ∀ u3 u9 u10 u11 u12 u13 u14 u25 u26 u27 u28 u29 u30 u31 u32 u33 u34 u35 u36 u37 u38 u39 u40 u41 (v : Option Addr) (n c : Nat) (f : List Nat) (w' : World), Blk w' X 32 [.slice p1 q1 r1, .slice v n c] → CI N X w' (.slice p1 q1 r1) (.slice v n c) L1 (L2 ++ [r]) xs L (fps2 ++ [f]) fps → Ext w w' → Q ⟨#[z0, .pointer (some ⟨B, 0, none⟩), .pointer (some ⟨X, 0, none⟩), u3, y4, y5, .int .i64 m, .int .i64 ((n1 + j : Nat) : Int), y8, u9, u10, u11, u12, u13, u14, y15, y16, y17, y18, y19, y20, y21, y22, y23, y24, u25, u26, u27, u28, u29, u30, u31, u32, u33, u34, u35, u36, u37, u38, u39, u40, u41, .bool (((q1 : Int) + (n : Int)) == 3), y43, y44, y45, y46, y47, y48, y49, y50, y51], []⟩ w') :
    dcR4.wp Try.prog (fun e a1 w1 => e = .normal ∧ dcX5.wp Try.prog (fun e a2 w2 => e = .normal ∧ dcR8.wp Try.prog (fun e a3 w3 => e = .normal ∧ Q a3 w3) a2 w2) a1 w1) ⟨#[z0, .pointer (some ⟨B, 0, none⟩), .pointer (some ⟨X, 0, none⟩), y3, y4, y5, .int .i64 m, .int .i64 ((n1 + j : Nat) : Int), y8, y9, y10, y11, y12, y13, y14, y15, y16, y17, y18, y19, y20, y21, y22, y23, y24, y25, y26, y27, y28, y29, y30, y31, y32, y33, y34, y35, y36, y37, y38, y39, y40, y41, y42, y43, y44, y45, y46, y47, y48, y49, y50, y51], []⟩ wr := by
  show (Code.region _ _ _).wp _ _ _ _
  have H1 := hidden h1
  have H2 := hidden h2
  have HB := hidden hB
  have HXB := hidden hXB
  have HC := hidden hC
  have HQ := hidden hcont
  have bl := (hB.extends hE).lt
  have xl := hXB.lt
  have be0 := (hB.extends hE).cell (j := 0) rfl
  have be1 := (hB.extends hE).cell (j := 1) rfl
  have x0 := hXB.cell (j := 0) rfl
  have x1 := hXB.cell (j := 1) rfl
  have xf0 := hXB.frozen 0
  have xf1 := hXB.frozen 1
  have HL1 := hidden (show q1 = L1.length by obtain ⟨a', c', e⟩ := hC.a1.shape; simp only [Value.slice.injEq] at e; exact e.2.1)
  have HL2 := hidden (show q2 = L2.length by obtain ⟨a', c', e⟩ := hC.a2.shape; simp only [Value.slice.injEq] at e; exact e.2.1)
  have hm1 := h1.2.2.1
  have hm2 := h2.2.2.1
  have hlc1 := h1.2.1
  have hlc2 := h2.2.1
  unfold maxLen at hm1 hm2
  have hlt : decide (((n1 + j : Nat) : Int) < (n1 : Int)) = false := by simp; omega
  have hix : ((n1 + j : Nat) : Int) - (n1 : Int) = (j : Int) := by omega
  clear hB hXB hC hcont
  obtain ⟨r, dhd, db, doff, dys, rfl, dhys, dhcell, dhrd⟩ := h2.at hE hj
  obtain ⟨da_r_path, dn_r_path, dc_r_path, da_r_marks, dn_r_marks, dc_r_marks, rfl, dg0, dg1, dg2, dg3, dg4⟩ := dhrd
  have dc0 : wr.cell? ⟨db, doff + j * 5, none⟩ = some _ := dhcell 0 _ rfl
  have dc1 : wr.cell? ⟨db, doff + j * 5 + 1, none⟩ = some _ := dhcell 1 _ rfl
  have dc2 : wr.cell? ⟨db, doff + j * 5 + 2, none⟩ = some _ := dhcell 2 _ rfl
  have dc3 : wr.cell? ⟨db, doff + j * 5 + 3, none⟩ = some _ := dhcell 3 _ rfl
  have dc4 : wr.cell? ⟨db, doff + j * 5 + 4, none⟩ = some _ := dhcell 4 _ rfl
  have dlb := cell_lt dc0
  have dHD := hidden dhd
  clear dhcell dhys dhd
  have hl1 : dn_r_path ≤ 1048576 := by have := (dl_short dHD.out hz).1; have := dg2.1; omega
  have hl2 : dn_r_marks ≤ 1048576 := by have := (dl_short dHD.out hz).2; have := dg4.1; omega
  have I1 := hidden dg0
  have I2 := hidden dg1
  have I3 := hidden dg3
  clear dg0 dg1 dg3
  clear h1 h2
  go_wp2_with fail
  show (Code.seq (Code.region _ _ _) (Code.cond _ (Code.region _ _ _) (Code.region _ _ _))).wp _ _ _ _
  go_wp2_with fail
  go_wp2_with (first | (first | ((go_at_call 21; (with_reducible refine (copyRoute_any _ _ _ _ _ _ r.path _ _ _ r.marks _ (dg2.stays ((by repeat (first | with_reducible exact Ext.refl _ | with_reducible apply Ext.and | with_reducible apply Ext.drewx | with_reducible apply Ext.alloc | with_reducible apply Ext.ext | with_reducible apply Ext.drew | with_reducible refine Ext.setCell ?_ (by simp) _)) : Ext _ _).below) (dg4.stays ((by repeat (first | with_reducible exact Ext.refl _ | with_reducible apply Ext.and | with_reducible apply Ext.drewx | with_reducible apply Ext.alloc | with_reducible apply Ext.ext | with_reducible apply Ext.drew | with_reducible refine Ext.setCell ?_ (by simp) _)) : Ext _ _).below) (by omega) (by omega)).mono ?_); rintro _ w1 ⟨b1, m1, d1, b2, m2, d2, rfl, C1, y1, rfl⟩; (try rw [ext_ext] at C1); obtain ⟨f, ho, hf, hlo⟩ := Cp.rt (d := r) C1 I1.out I2.out I3.out; have HO := hidden ho; have HFN := hidden hf; have HLO := hidden (show ∀ b ∈ f, wr.heap.size ≤ b from fun b hb => Nat.le_trans ((by repeat (first | with_reducible exact Ext.refl _ | with_reducible apply Ext.and | with_reducible apply Ext.drewx | with_reducible apply Ext.alloc | with_reducible apply Ext.ext | with_reducible apply Ext.drew | with_reducible refine Ext.setCell ?_ (by simp) _)) : Ext wr _).size (hlo b hb)); clear C1 ho hf hlo)) | ((at_builtin; refine wpList_pushO' (N := N) (l := L2) (d := r) rfl _ _ rfl tyi_Rt (by decide) (by rfl) (HC.out.a2.ext ((by repeat (first | with_reducible exact Ext.refl _ | with_reducible apply Ext.and | with_reducible apply Ext.drewx | with_reducible apply Ext.alloc | with_reducible apply Ext.ext | with_reducible apply Ext.drew | with_reducible refine Ext.setCell ?_ (by simp) _)) : Ext wr _)) (by omega) (by rfl) (Blk.newAt _ _ _ (by simp)) (Ow.later HO.out (by repeat (first | with_reducible exact Ext.refl _ | with_reducible apply Ext.and | with_reducible apply Ext.drewx | with_reducible apply Ext.alloc | with_reducible apply Ext.ext | with_reducible apply Ext.drew | with_reducible refine Ext.setCell ?_ (by simp) _))) HFN.out (HC.out.a2.apart (fun b hb => HLO.out b hb)) (by simp; omega) ?_; intro v3 w3 hA1 hg1 hX1 hv1; obtain ⟨b', n', c', rfl⟩ := hA1.shapeL; have hC1 := (HC.out.ext ((by repeat (first | with_reducible exact Ext.refl _ | with_reducible apply Ext.and | with_reducible apply Ext.drewx | with_reducible apply Ext.alloc | with_reducible apply Ext.ext | with_reducible apply Ext.drew | with_reducible refine Ext.setCell ?_ (by simp) _)) : Ext wr _)).push2 (by simp; omega) hA1 hg1 hv1 (fun b hb => by have h1 := HLO.out b hb; exact ⟨by omega, by omega, fun e => by have := (HC.out.a1.low _ e).2; omega, fun hm => by have := HC.out.row.lt b hm; omega⟩); have hX3 := (HXB.out.extends ((by repeat (first | with_reducible exact Ext.refl _ | with_reducible apply Ext.and | with_reducible apply Ext.drewx | with_reducible apply Ext.alloc | with_reducible apply Ext.ext | with_reducible apply Ext.drew | with_reducible refine Ext.setCell ?_ (by simp) _)) : Ext wr _)).grown hg1 (fun e => HC.out.x2 _ e.symm rfl); have q0 := hX3.cell (j := 0) rfl; have q1' := hX3.cell (j := 1) rfl; have qf := hX3.frozen 1; have ql := hX3.lt; have hE1 := hX1 w (hE.trans ((by repeat (first | with_reducible exact Ext.refl _ | with_reducible apply Ext.and | with_reducible apply Ext.drewx | with_reducible apply Ext.alloc | with_reducible apply Ext.ext | with_reducible apply Ext.drew | with_reducible refine Ext.setCell ?_ (by simp) _)) : Ext wr _)) (by omega); have HC1 := hidden hC1; have HX3 := hidden hX3; have HEN := hidden (show n' = L2.length + 1 by obtain ⟨a', c', e⟩ := hC1.a2.shape; simp only [Value.slice.injEq, List.length_append, List.length_singleton] at e; exact e.2.1); clear hA1 hX3 hv1 hg1 hX1 hC1))) | ((first | with_reducible refine wp_region_qe (by kernel_rfl) (by kernel_rfl) ?_ | with_reducible refine wp_region_q (by kernel_rfl) (by kernel_rfl) ?_); (repeat' (first | go_big_quiet_step ((first | ((go_at_call 21; (with_reducible refine (copyRoute_any _ _ _ _ _ _ r.path _ _ _ r.marks _ (dg2.stays ((by repeat (first | with_reducible exact Ext.refl _ | with_reducible apply Ext.and | with_reducible apply Ext.drewx | with_reducible apply Ext.alloc | with_reducible apply Ext.ext | with_reducible apply Ext.drew | with_reducible refine Ext.setCell ?_ (by simp) _)) : Ext _ _).below) (dg4.stays ((by repeat (first | with_reducible exact Ext.refl _ | with_reducible apply Ext.and | with_reducible apply Ext.drewx | with_reducible apply Ext.alloc | with_reducible apply Ext.ext | with_reducible apply Ext.drew | with_reducible refine Ext.setCell ?_ (by simp) _)) : Ext _ _).below) (by omega) (by omega)).mono ?_); rintro _ w1 ⟨b1, m1, d1, b2, m2, d2, rfl, C1, y1, rfl⟩; (try rw [ext_ext] at C1); obtain ⟨f, ho, hf, hlo⟩ := Cp.rt (d := r) C1 I1.out I2.out I3.out; have HO := hidden ho; have HFN := hidden hf; have HLO := hidden (show ∀ b ∈ f, wr.heap.size ≤ b from fun b hb => Nat.le_trans ((by repeat (first | with_reducible exact Ext.refl _ | with_reducible apply Ext.and | with_reducible apply Ext.drewx | with_reducible apply Ext.alloc | with_reducible apply Ext.ext | with_reducible apply Ext.drew | with_reducible refine Ext.setCell ?_ (by simp) _)) : Ext wr _).size (hlo b hb)); clear C1 ho hf hlo)) | ((at_builtin; refine wpList_pushO' (N := N) (l := L2) (d := r) rfl _ _ rfl tyi_Rt (by decide) (by rfl) (HC.out.a2.ext ((by repeat (first | with_reducible exact Ext.refl _ | with_reducible apply Ext.and | with_reducible apply Ext.drewx | with_reducible apply Ext.alloc | with_reducible apply Ext.ext | with_reducible apply Ext.drew | with_reducible refine Ext.setCell ?_ (by simp) _)) : Ext wr _)) (by omega) (by rfl) (Blk.newAt _ _ _ (by simp)) (Ow.later HO.out (by repeat (first | with_reducible exact Ext.refl _ | with_reducible apply Ext.and | with_reducible apply Ext.drewx | with_reducible apply Ext.alloc | with_reducible apply Ext.ext | with_reducible apply Ext.drew | with_reducible refine Ext.setCell ?_ (by simp) _))) HFN.out (HC.out.a2.apart (fun b hb => HLO.out b hb)) (by simp; omega) ?_; intro v3 w3 hA1 hg1 hX1 hv1; obtain ⟨b', n', c', rfl⟩ := hA1.shapeL; have hC1 := (HC.out.ext ((by repeat (first | with_reducible exact Ext.refl _ | with_reducible apply Ext.and | with_reducible apply Ext.drewx | with_reducible apply Ext.alloc | with_reducible apply Ext.ext | with_reducible apply Ext.drew | with_reducible refine Ext.setCell ?_ (by simp) _)) : Ext wr _)).push2 (by simp; omega) hA1 hg1 hv1 (fun b hb => by have h1 := HLO.out b hb; exact ⟨by omega, by omega, fun e => by have := (HC.out.a1.low _ e).2; omega, fun hm => by have := HC.out.row.lt b hm; omega⟩); have hX3 := (HXB.out.extends ((by repeat (first | with_reducible exact Ext.refl _ | with_reducible apply Ext.and | with_reducible apply Ext.drewx | with_reducible apply Ext.alloc | with_reducible apply Ext.ext | with_reducible apply Ext.drew | with_reducible refine Ext.setCell ?_ (by simp) _)) : Ext wr _)).grown hg1 (fun e => HC.out.x2 _ e.symm rfl); have q0 := hX3.cell (j := 0) rfl; have q1' := hX3.cell (j := 1) rfl; have qf := hX3.frozen 1; have ql := hX3.lt; have hE1 := hX1 w (hE.trans ((by repeat (first | with_reducible exact Ext.refl _ | with_reducible apply Ext.and | with_reducible apply Ext.drewx | with_reducible apply Ext.alloc | with_reducible apply Ext.ext | with_reducible apply Ext.drew | with_reducible refine Ext.setCell ?_ (by simp) _)) : Ext wr _)) (by omega); have HC1 := hidden hC1; have HX3 := hidden hX3; have HEN := hidden (show n' = L2.length + 1 by obtain ⟨a', c', e⟩ := hC1.a2.shape; simp only [Value.slice.injEq, List.length_append, List.length_singleton] at e; exact e.2.1); clear hA1 hX3 hv1 hg1 hX1 hC1)))) | (refine wpQuiet_split rfl rfl rfl rfl (fun hsp => ?_) (fun hsp => ?_); ((fail_if_success (cases hsp; done)); simp only [hsp]; (try first | have hsq : _ < _ := of_decide_eq_true hsp | have hsq : _ ≤ _ := of_decide_eq_true hsp | have hsq : ¬ _ < _ := of_decide_eq_false hsp | have hsq : ¬ _ ≤ _ := of_decide_eq_false hsp)); rotate_left; ((fail_if_success (cases hsp; done)); simp only [hsp]; (try first | have hsq : _ < _ := of_decide_eq_true hsp | have hsq : _ ≤ _ := of_decide_eq_true hsp | have hsq : ¬ _ < _ := of_decide_eq_false hsp | have hsq : ¬ _ ≤ _ := of_decide_eq_false hsp))))); (all_goals (refine wpQuiet_nil ?_; intro x))) | ((first | with_reducible refine wp_region_seqSe (by kernel_rfl) (by kernel_rfl) ?_ | with_reducible refine wp_region_seqSw (by kernel_rfl) (by kernel_rfl) ?_); (repeat' (first | ((with_reducible refine wpSeqS_pure (by with_unfolding_all rfl) (fun Kq hKq => ?_)); (repeat' (first | go_big_quiet_step (fail) | (refine wpQuiet_split rfl rfl rfl rfl (fun hsp => ?_) (fun hsp => ?_); ((fail_if_success (cases hsp; done)); simp only [hsp]; (try first | have hsq : _ < _ := of_decide_eq_true hsp | have hsq : _ ≤ _ := of_decide_eq_true hsp | have hsq : ¬ _ < _ := of_decide_eq_false hsp | have hsq : ¬ _ ≤ _ := of_decide_eq_false hsp)); rotate_left; ((fail_if_success (cases hsp; done)); simp only [hsp]; (try first | have hsq : _ < _ := of_decide_eq_true hsp | have hsq : _ ≤ _ := of_decide_eq_true hsp | have hsq : ¬ _ < _ := of_decide_eq_false hsp | have hsq : ¬ _ ≤ _ := of_decide_eq_false hsp))))); (all_goals (refine wpQuiet_nil ?_; refine hKq _ ?_; clear hKq Kq))) | ((with_reducible refine wpSeqS_load (by with_unfolding_all rfl) (fun Kq hKq => ?_)); (repeat' (first | go_big_quiet_step (fail) | (refine wpQuiet_split rfl rfl rfl rfl (fun hsp => ?_) (fun hsp => ?_); ((fail_if_success (cases hsp; done)); simp only [hsp]; (try first | have hsq : _ < _ := of_decide_eq_true hsp | have hsq : _ ≤ _ := of_decide_eq_true hsp | have hsq : ¬ _ < _ := of_decide_eq_false hsp | have hsq : ¬ _ ≤ _ := of_decide_eq_false hsp)); rotate_left; ((fail_if_success (cases hsp; done)); simp only [hsp]; (try first | have hsq : _ < _ := of_decide_eq_true hsp | have hsq : _ ≤ _ := of_decide_eq_true hsp | have hsq : ¬ _ < _ := of_decide_eq_false hsp | have hsq : ¬ _ ≤ _ := of_decide_eq_false hsp))))); (all_goals (refine wpQuiet_nil ?_; refine hKq _ ?_; clear hKq Kq))) | ((with_reducible refine wpSeqS_act (by with_unfolding_all rfl) (fun Q' hQ' => ?_)); (go_wp2_with (first | ((go_at_call 21; (with_reducible refine (copyRoute_any _ _ _ _ _ _ r.path _ _ _ r.marks _ (dg2.stays ((by repeat (first | with_reducible exact Ext.refl _ | with_reducible apply Ext.and | with_reducible apply Ext.drewx | with_reducible apply Ext.alloc | with_reducible apply Ext.ext | with_reducible apply Ext.drew | with_reducible refine Ext.setCell ?_ (by simp) _)) : Ext _ _).below) (dg4.stays ((by repeat (first | with_reducible exact Ext.refl _ | with_reducible apply Ext.and | with_reducible apply Ext.drewx | with_reducible apply Ext.alloc | with_reducible apply Ext.ext | with_reducible apply Ext.drew | with_reducible refine Ext.setCell ?_ (by simp) _)) : Ext _ _).below) (by omega) (by omega)).mono ?_); rintro _ w1 ⟨b1, m1, d1, b2, m2, d2, rfl, C1, y1, rfl⟩; (try rw [ext_ext] at C1); obtain ⟨f, ho, hf, hlo⟩ := Cp.rt (d := r) C1 I1.out I2.out I3.out; have HO := hidden ho; have HFN := hidden hf; have HLO := hidden (show ∀ b ∈ f, wr.heap.size ≤ b from fun b hb => Nat.le_trans ((by repeat (first | with_reducible exact Ext.refl _ | with_reducible apply Ext.and | with_reducible apply Ext.drewx | with_reducible apply Ext.alloc | with_reducible apply Ext.ext | with_reducible apply Ext.drew | with_reducible refine Ext.setCell ?_ (by simp) _)) : Ext wr _).size (hlo b hb)); clear C1 ho hf hlo)) | ((at_builtin; refine wpList_pushO' (N := N) (l := L2) (d := r) rfl _ _ rfl tyi_Rt (by decide) (by rfl) (HC.out.a2.ext ((by repeat (first | with_reducible exact Ext.refl _ | with_reducible apply Ext.and | with_reducible apply Ext.drewx | with_reducible apply Ext.alloc | with_reducible apply Ext.ext | with_reducible apply Ext.drew | with_reducible refine Ext.setCell ?_ (by simp) _)) : Ext wr _)) (by omega) (by rfl) (Blk.newAt _ _ _ (by simp)) (Ow.later HO.out (by repeat (first | with_reducible exact Ext.refl _ | with_reducible apply Ext.and | with_reducible apply Ext.drewx | with_reducible apply Ext.alloc | with_reducible apply Ext.ext | with_reducible apply Ext.drew | with_reducible refine Ext.setCell ?_ (by simp) _))) HFN.out (HC.out.a2.apart (fun b hb => HLO.out b hb)) (by simp; omega) ?_; intro v3 w3 hA1 hg1 hX1 hv1; obtain ⟨b', n', c', rfl⟩ := hA1.shapeL; have hC1 := (HC.out.ext ((by repeat (first | with_reducible exact Ext.refl _ | with_reducible apply Ext.and | with_reducible apply Ext.drewx | with_reducible apply Ext.alloc | with_reducible apply Ext.ext | with_reducible apply Ext.drew | with_reducible refine Ext.setCell ?_ (by simp) _)) : Ext wr _)).push2 (by simp; omega) hA1 hg1 hv1 (fun b hb => by have h1 := HLO.out b hb; exact ⟨by omega, by omega, fun e => by have := (HC.out.a1.low _ e).2; omega, fun hm => by have := HC.out.row.lt b hm; omega⟩); have hX3 := (HXB.out.extends ((by repeat (first | with_reducible exact Ext.refl _ | with_reducible apply Ext.and | with_reducible apply Ext.drewx | with_reducible apply Ext.alloc | with_reducible apply Ext.ext | with_reducible apply Ext.drew | with_reducible refine Ext.setCell ?_ (by simp) _)) : Ext wr _)).grown hg1 (fun e => HC.out.x2 _ e.symm rfl); have q0 := hX3.cell (j := 0) rfl; have q1' := hX3.cell (j := 1) rfl; have qf := hX3.frozen 1; have ql := hX3.lt; have hE1 := hX1 w (hE.trans ((by repeat (first | with_reducible exact Ext.refl _ | with_reducible apply Ext.and | with_reducible apply Ext.drewx | with_reducible apply Ext.alloc | with_reducible apply Ext.ext | with_reducible apply Ext.drew | with_reducible refine Ext.setCell ?_ (by simp) _)) : Ext wr _)) (by omega); have HC1 := hidden hC1; have HX3 := hidden hX3; have HEN := hidden (show n' = L2.length + 1 by obtain ⟨a', c', e⟩ := hC1.a2.shape; simp only [Value.slice.injEq, List.length_append, List.length_singleton] at e; exact e.2.1); clear hA1 hX3 hv1 hg1 hX1 hC1)))); (all_goals (refine hQ' _ _ rfl ?_ ?_; (first | (focus (intro hbk; simp [brkB] at hbk; done)) | (focus (intro _; change Ext _ _; exact (by repeat (first | with_reducible assumption | with_reducible exact Ext.refl _ | with_reducible apply Ext.and | with_reducible apply Ext.drewx | with_reducible apply Ext.alloc | with_reducible apply Ext.ext | with_reducible apply Ext.drew | with_reducible refine Ext.setCell ?_ (by simp) _))))); clear hQ' Q'))))); (all_goals ((with_reducible refine wpSeqS_nil ?_)))))
  show (Code.region _ _ _).wp _ _ _ _
  have HX4 := hidden (HX3.out.set 1 (.slice b' n' c'))
  have HC4 := hidden (HC1.out.setX 1 (.slice b' n' c'))
  have hE4 := hE1.setCell (p := ⟨X, 1, none⟩) hX (.slice b' n' c')
  obtain ⟨W4, hW4⟩ : ∃ W4, W4 = w3.setCell ⟨X, 1, none⟩ (.slice b' n' c') := ⟨_, rfl⟩
  rw [← hW4] at HX4 HC4 hE4 ⊢
  have s0 := HX4.out.cell (j := 0) rfl
  have s1 := HX4.out.cell (j := 1) rfl
  have sl := HX4.out.lt
  have hsm : q1 + n' ≤ 1048576 := by have := HEN.out; have := HL1.out; omega
  clear hW4 q0 q1' qf ql be0 be1 x0 x1 xf0 xf1 dc0 dc1
  go_wp2_with (first | (first | (go_at_call 20; (with_reducible refine (kid_many _ _ _ _ _ _ _ hsm).mono ?_); rintro _ _ ⟨rfl, x, rfl⟩)) | ((first | with_reducible refine wp_region_qe (by kernel_rfl) (by kernel_rfl) ?_ | with_reducible refine wp_region_q (by kernel_rfl) (by kernel_rfl) ?_); (repeat (go_big_quiet_step ((first | (go_at_call 20; first | with_reducible exact Calls.qb (by assumption) (kid_many _ _ _ _ _ _ _ hsm) | with_reducible exact Calls.q (kid_many _ _ _ _ _ _ _ hsm)))))); refine wpQuiet_nil ?_; intro x))
  exact HQ.out r dHD.out _ _ _ _ _ _ _ _ _ _ _ _ _ _ _ _ _ _ _ _ _ _ _ _ b' n' c' f _ (HX4.out.extends (by repeat (first | with_reducible exact Ext.refl _ | with_reducible apply Ext.and | with_reducible apply Ext.drewx | with_reducible apply Ext.alloc | with_reducible apply Ext.ext | with_reducible apply Ext.drew | with_reducible refine Ext.setCell ?_ (by simp) _))) (HC4.out.ext (by repeat (first | with_reducible exact Ext.refl _ | with_reducible apply Ext.and | with_reducible apply Ext.drewx | with_reducible apply Ext.alloc | with_reducible apply Ext.ext | with_reducible apply Ext.drew | with_reducible refine Ext.setCell ?_ (by simp) _))) (hE4.trans (by repeat (first | with_reducible exact Ext.refl _ | with_reducible apply Ext.and | with_reducible apply Ext.drewx | with_reducible apply Ext.alloc | with_reducible apply Ext.ext | with_reducible apply Ext.drew | with_reducible refine Ext.setCell ?_ (by simp) _)))
end Go.Proofs.Ytngehfhcnfobbaa
namespace Go.Proofs.Ytngehfhcnfobbaa
open Go

/-- What a simulation is relative to: the blocks below 'G' bear their own numbers; the blocks of 'Fz' are not written; the functions of 'T' may be entered; values of the types of 'M' may be called through an interface; the number 'K' no function bears: a function value of that number stands for a slice or a channel of the company's that is handed on and not looked at ('Tk': there are such); 'J': whatever function may be unknown to the lone world. -/
structure Cx where
  G : Nat
  Fz : Nat → Prop
  T : FuncId → Prop
  M : TypeId → Prop
  K : FuncId
  Tk : Prop
  J : Prop

/-- What may stand where the lone world knows nothing. -/
def Solid (J : Prop) : Value → Prop
  | .pointer (some _) | .slice (some _) _ _ | .iface _ _ | .tuple _ | .map _ | .chan _ | .func (.func _) _ _ | .float _ _ | .complex _ _ _ => True
  | .func _ _ _ => J
  | _ => False

section
variable (c : Cx) (ρ : Nat → Nat → Prop)

inductive VR : Value → Value → Prop
  | junk (v : Value) (h : Solid c.J v) : VR (.tuple #[]) v
  | tok (hk : c.Tk) (a : Option Addr) (n m : Nat) : VR (.func (.func c.K) #[.slice a n m] #[]) (.slice a n m)
  | tokc (hk : c.Tk) (r : Option Nat) : VR (.func (.func c.K) #[.chan r] #[]) (.chan r)
  | bool (b : Bool) : VR (.bool b) (.bool b)
  | int (k : IntKind) (n : Int) : VR (.int k n) (.int k n)
  | string (s : ByteArray) : VR (.string s) (.string s)
  | nilp : VR (.pointer none) (.pointer none)
  | ptr {b b' : Nat} (o : Nat) (s : Option Nat) (h : ρ b b') : VR (.pointer (some ⟨b, o, s⟩)) (.pointer (some ⟨b', o, s⟩))
  | nils (n m : Nat) : VR (.slice none n m) (.slice none n m)
  | slice {b b' : Nat} (o : Nat) (s : Option Nat) (n m : Nat) (h : ρ b b') : VR (.slice (some ⟨b, o, s⟩) n m) (.slice (some ⟨b', o, s⟩) n m)
  | void (a : Addr) : VR (.slice (some a) 0 0) (.slice (some a) 0 0)
  | nilFunc : VR .nilFunc .nilFunc
  | nilIface : VR .nilIface .nilIface
  | func {f : FuncId} {xs xs' ys ys' : Array Value} (hT : c.T f) (hx : xs.size = xs'.size) (h1 : ∀ (i : Nat) v v', xs[i]? = some v → xs'[i]? = some v' → VR v v')
      (hy : ys.size = ys'.size) (h2 : ∀ (i : Nat) v v', ys[i]? = some v → ys'[i]? = some v' → VR v v') : VR (.func (.func f) xs ys) (.func (.func f) xs' ys')
  | iface {t : TypeId} {v v' : Value} (hM : c.M t) (h : VR v v') : VR (.iface t v) (.iface t v')
  | agg {xs xs' : Array Value} (hx : xs.size = xs'.size) (h1 : ∀ (i : Nat) v v', xs[i]? = some v → xs'[i]? = some v' → VR v v') : VR (.agg xs) (.agg xs')
  | tuple {xs xs' : Array Value} (hx : xs.size = xs'.size) (h1 : ∀ (i : Nat) v v', xs[i]? = some v → xs'[i]? = some v' → VR v v') : VR (.tuple xs) (.tuple xs')

/-- Rows of values. -/
def AR (xs xs' : Array Value) : Prop := xs.size = xs'.size ∧ ∀ (i : Nat) v v', xs[i]? = some v → xs'[i]? = some v' → VR c ρ v v'

/-- Addresses. -/
structure AdR (ρ : Nat → Nat → Prop) (a a' : Addr) : Prop where
  blk : ρ a.block a'.block
  off : a.off = a'.off
  spot : a.spot = a'.spot

/-- Blocks. -/
inductive OR : Obj → Obj → Prop
  | cells {xs xs' : Array Value} (e : TypeId) {lo hi lo' hi' : Nat} (h : AR c ρ xs xs') (hf : ∀ o, lo' ≤ o → o < hi' → lo ≤ o ∧ o < hi) : OR (.cells xs e (lo, hi)) (.cells xs' e (lo', hi'))
  | number {a a' : Addr} (h : AdR ρ a a') (lost : Bool) : OR (.number a lost) (.number a' lost)

/-- A block that cannot be written. -/
def _root_.Go.Proofs.Ytngehfhcnfobbaa.StillO : Obj → Prop
  | .cells xs _ (lo, hi) => lo = 0 ∧ xs.size ≤ hi
  | .number .. => True
  | _ => False

structure WR (w W : World) : Prop where
  fn : ∀ a b d, ρ a b → ρ a d → b = d
  inj : ∀ a b d, ρ a d → ρ b d → a = b
  obj : ∀ b b', ρ b b' → ∃ o o', w.heap[b]? = some o ∧ W.heap[b']? = some o' ∧ OR c ρ o o'
  glob : ∀ b, b < c.G → ρ b b
  fz : ∀ b, c.Fz b → ∃ o, w.heap[b]? = some o ∧ StillO o

/-- What the company's run lists. -/
def EvC (e : Event) : Prop :=
  (∃ b b' o s wr, e = ⟨.cell ⟨b', o, s⟩, wr, false⟩ ∧ ρ b b' ∧ (wr = true → ¬ c.Fz b)) ∨ (∃ b b', e = ⟨.obj b', false, false⟩ ∧ ρ b b') ∨ e = ⟨.mark .noRoom, false, true⟩ ∨ ∃ f, e = ⟨.mark (.extern f), false, true⟩
end

/-- What has become of both worlds. -/
structure Gr (c : Cx) (ρ : Nat → Nat → Prop) (w W : World) (ρ' : Nat → Nat → Prop) (w' W' : World) : Prop where
  sub : ∀ b b', ρ b b' → ρ' b b'
  new : ∀ b b', ρ' b b' → ρ b b' ∨ (w.heap.size ≤ b ∧ W.heap.size ≤ b')
  all : ∀ b', W.heap.size ≤ b' → b' < W'.heap.size → ∃ b, ρ' b b' ∧ w.heap.size ≤ b
  lsz : w.heap.size ≤ w'.heap.size
  csz : W.heap.size ≤ W'.heap.size
  keep : ∀ b', b' < W.heap.size → (∀ b, ρ b b' → c.Fz b) → W'.heap[b']? = W.heap[b']?
  tape : W'.tape = W.tape
  os : W'.os = W.os
  output : W'.output = W.output

section
variable {c : Cx} {ρ ρ' ρ'' : Nat → Nat → Prop} {w w' w'' W W' W'' : World}

theorem VR.mono (hs : ∀ b b', ρ b b' → ρ' b b') {v v' : Value} (h : VR c ρ v v') : VR c ρ' v v' := by
  induction h with
  | junk v h => exact .junk v h
  | tok hk a n m => exact .tok hk a n m
  | tokc hk r => exact .tokc hk r
  | bool b => exact .bool b
  | int k n => exact .int k n
  | string s => exact .string s
  | nilp => exact .nilp
  | ptr o s h => exact .ptr o s (hs _ _ h)
  | nils n m => exact .nils n m
  | slice o s n m h => exact .slice o s n m (hs _ _ h)
  | void a => exact .void a
  | nilFunc => exact .nilFunc
  | nilIface => exact .nilIface
  | func hT hx _ hy _ i1 i2 => exact .func hT hx i1 hy i2
  | iface hM _ ih => exact .iface hM ih
  | agg hx _ ih => exact .agg hx ih
  | tuple hx _ ih => exact .tuple hx ih

theorem AR.mono (hs : ∀ b b', ρ b b' → ρ' b b') {xs xs' : Array Value} (h : AR c ρ xs xs') : AR c ρ' xs xs' := ⟨h.1, fun i v v' h1 h2 => (h.2 i v v' h1 h2).mono hs⟩
theorem OR.mono (hs : ∀ b b', ρ b b' → ρ' b b') {o o' : Obj} (h : OR c ρ o o') : OR c ρ' o o' := by
  cases h with
  | cells e h hf => exact .cells e (h.mono hs) hf
  | number h l => exact .number ⟨hs _ _ h.blk, h.off, h.spot⟩ l
theorem EvC.mono (hs : ∀ b b', ρ b b' → ρ' b b') {e : Event} (h : EvC c ρ e) : EvC c ρ' e := by
  rcases h with ⟨b, b', o, s, wr, h1, h2, h3⟩ | ⟨b, b', h1, h2⟩ | h | h
  · exact .inl ⟨b, b', o, s, wr, h1, hs _ _ h2, h3⟩
  · exact .inr (.inl ⟨b, b', h1, hs _ _ h2⟩)
  · exact .inr (.inr (.inl h))
  · exact .inr (.inr (.inr h))

theorem WR.lt (h : WR c ρ w W) {b b' : Nat} (hr : ρ b b') : b < w.heap.size ∧ b' < W.heap.size := by
  obtain ⟨o, o', h1, h2, _⟩ := h.obj b b' hr
  exact ⟨(Array.getElem?_eq_some_iff.1 h1).1, (Array.getElem?_eq_some_iff.1 h2).1⟩
theorem WR.fz_lt (h : WR c ρ w W) {b : Nat} (hr : c.Fz b) : b < w.heap.size := by
  obtain ⟨o, h1, _⟩ := h.fz b hr
  exact (Array.getElem?_eq_some_iff.1 h1).1

theorem Gr.refl (c : Cx) (ρ : Nat → Nat → Prop) (w W : World) : Gr c ρ w W ρ w W :=
  ⟨fun _ _ h => h, fun _ _ h => .inl h, fun _ h1 h2 => absurd h2 (Nat.not_lt.2 h1), Nat.le_refl _, Nat.le_refl _, fun _ _ _ => rfl, rfl, rfl, rfl⟩

theorem Gr.trans (h : Gr c ρ w W ρ' w' W') (k : Gr c ρ' w' W' ρ'' w'' W'') : Gr c ρ w W ρ'' w'' W'' where
  sub b b' x := k.sub _ _ (h.sub _ _ x)
  new b b' x := by
    rcases k.new b b' x with y | ⟨y, z⟩
    · exact h.new b b' y
    · exact .inr ⟨Nat.le_trans h.lsz y, Nat.le_trans h.csz z⟩
  all b' h1 h2 := by
    rcases Nat.lt_or_ge b' W'.heap.size with h3 | h3
    · obtain ⟨b, hb, hb'⟩ := h.all b' h1 h3
      exact ⟨b, k.sub _ _ hb, hb'⟩
    · obtain ⟨b, hb, hb'⟩ := k.all b' h3 h2
      exact ⟨b, hb, Nat.le_trans h.lsz hb'⟩
  lsz := Nat.le_trans h.lsz k.lsz
  csz := Nat.le_trans h.csz k.csz
  keep b' h1 h2 := by
    rw [k.keep b' (Nat.lt_of_lt_of_le h1 h.csz) fun b hb => ?_, h.keep b' h1 h2]
    rcases h.new b b' hb with y | ⟨_, z⟩
    · exact h2 b y
    · omega
  tape := k.tape.trans h.tape
  os := k.os.trans h.os
  output := k.output.trans h.output
end

/-- A halt that ends the run or raises a panic. -/
def _root_.Go.Halt.dead : Halt → Prop
  | .panic _ | .stuck _ => True
  | .unsupported (.initOrder _) => False
  | .unsupported _ => True
  | _ => False

/-- The world with this tape, so many answers taken. -/
def td (w : World) (τ : Nat → Question → Nat) (d : Nat) : World := { w with tape := τ, drawn := d }
def tdR {α : Type} (r : Result α) (τ : Nat → Question → Nat) (d : Nat) : Result α :=
  match r with
  | .ok a w => .ok a (td w τ d)
  | .halt h w => .halt h (td w τ d)

/-- The lone run of 's' (on whatever tape whose first answers are the company's) and the company's run of 's'' from related worlds. -/
def Sim {α β : Type} (P : Program) (c : Cx) (ρ : Nat → Nat → Prop) (R : (Nat → Nat → Prop) → α → β → Prop) (s : Sem α) (s' : Sem β) : Prop :=
  ∀ w W es', WR c ρ w W → (∀ e ∈ es', EvC c ρ e) →
    ∃ (σ : Nat → Question → Nat) (k : Nat) (r : Result α), (∀ τ d, (∀ i q, i < k → τ (d + i) q = σ i q) → s.run P (td w τ d) = tdR r τ (d + k)) ∧
      match r with
      | .ok a w1 => ∃ ρ1 b W1 es1', s'.runT P W es' = (.ok b W1, es1') ∧ Gr c ρ w W ρ1 w1 W1 ∧ WR c ρ1 w1 W1 ∧ (∀ e ∈ es1', EvC c ρ1 e) ∧ R ρ1 a b
      | .halt h _ => h.dead

section
variable {α β γ δ : Type} {P : Program} {c : Cx} {ρ : Nat → Nat → Prop}

/-- It takes no answer. -/
theorem Sim.quiet {R : (Nat → Nat → Prop) → α → β → Prop} {s : Sem α} {s' : Sem β}
    (h : ∀ w W es', WR c ρ w W → (∀ e ∈ es', EvC c ρ e) → ∃ r : Result α, (∀ τ d, s.run P (td w τ d) = tdR r τ d) ∧
      match r with
      | .ok a w1 => ∃ ρ1 b W1 es1', s'.runT P W es' = (.ok b W1, es1') ∧ Gr c ρ w W ρ1 w1 W1 ∧ WR c ρ1 w1 W1 ∧ (∀ e ∈ es1', EvC c ρ1 e) ∧ R ρ1 a b
      | .halt h _ => h.dead) : Sim P c ρ R s s' := by
  intro w W es' hw he
  obtain ⟨r, h1, h2⟩ := h w W es' hw he
  exact ⟨fun _ _ => 0, 0, r, fun τ d _ => h1 τ d, h2⟩

theorem Sim.pure {R : (Nat → Nat → Prop) → α → β → Prop} {a : α} {b : β} (h : R ρ a b) : Sim P c ρ R (Pure.pure a) (Pure.pure b) :=
  .quiet fun w W es' hw he => ⟨.ok a w, fun _ _ => rfl, ρ, b, W, es', rfl, .refl .., hw, he, h⟩

theorem Sim.halt {R : (Nat → Nat → Prop) → α → β → Prop} {h : Halt} {s' : Sem β} (hd : h.dead) : Sim P c ρ R (.halt h : Sem α) s' :=
  .quiet fun w _ _ _ _ => ⟨.halt h w, fun _ _ => rfl, hd⟩
theorem Sim.stuck {R : (Nat → Nat → Prop) → α → β → Prop} {why : String} {s' : Sem β} : Sim P c ρ R (Go.stuck why : Sem α) s' := .halt trivial
theorem Sim.goPanic {R : (Nat → Nat → Prop) → α → β → Prop} {v : Value} {s' : Sem β} : Sim P c ρ R (Go.goPanic v : Sem α) s' := .halt trivial

theorem Sim.mono {R R' : (Nat → Nat → Prop) → α → β → Prop} {s : Sem α} {s' : Sem β} (h : Sim P c ρ R s s') (hR : ∀ ρ1 a b, (∀ x y, ρ x y → ρ1 x y) → R ρ1 a b → R' ρ1 a b) : Sim P c ρ R' s s' := by
  intro w W es' hw he
  obtain ⟨σ, k, r, h0, h1⟩ := h w W es' hw he
  refine ⟨σ, k, r, h0, ?_⟩
  cases r with
  | ok a w1 =>
    obtain ⟨ρ1, b, W1, es1', h1, h2, h3, h4, h5⟩ := h1
    exact ⟨ρ1, b, W1, es1', h1, h2, h3, h4, hR _ _ _ h2.sub h5⟩
  | halt h _ => exact h1

theorem Sim.bind {R : (Nat → Nat → Prop) → α → β → Prop} {S : (Nat → Nat → Prop) → γ → δ → Prop} {s : Sem α} {s' : Sem β} {f : α → Sem γ} {g : β → Sem δ} (h : Sim P c ρ R s s')
    (k : ∀ ρ1, (∀ x y, ρ x y → ρ1 x y) → ∀ a b, R ρ1 a b → Sim P c ρ1 S (f a) (g b)) : Sim P c ρ S (s >>= f) (s' >>= g) := by
  intro w W es' hw he
  obtain ⟨σ, m, r, h0, h1⟩ := h w W es' hw he
  have e1 : ∀ x, (s >>= f).run P x = _ := Sem.run_bind' P s f
  have e2 : (s' >>= g).runT P W es' = _ := Sem.runT_bind' P s' g W es'
  rw [e2]
  cases r with
  | halt h w1 =>
    refine ⟨σ, m, .halt h w1, fun τ d ht => ?_, h1⟩
    rw [e1, h0 τ d ht]
    rfl
  | ok a w1 =>
    obtain ⟨ρ1, b, W1, es1, g1, g2, g3, g4, g5⟩ := h1
    rw [g1]
    obtain ⟨σ2, m2, r2, k0, k1⟩ := k ρ1 g2.sub a b g5 w1 W1 es1 g3 g4
    refine ⟨fun i q => if i < m then σ i q else σ2 (i - m) q, m + m2, r2, fun τ d ht => ?_, ?_⟩
    · have q1 : ∀ i q, i < m → τ (d + i) q = σ i q := fun i q hi => (ht i q (by omega)).trans (if_pos hi)
      have q2 : ∀ i q, i < m2 → τ (d + m + i) q = σ2 i q := fun i q hi => by
        have h3 := (ht (m + i) q (by omega)).trans (if_neg (by omega))
        rw [Nat.add_sub_cancel_left] at h3
        rw [Nat.add_assoc]; exact h3
      rw [e1, h0 τ d q1]
      show ((f a).run P (td w1 τ (d + m))) = _
      rw [k0 τ (d + m) q2, Nat.add_assoc]
    · cases r2 with
      | halt h _ => exact k1
      | ok a2 w2 =>
        obtain ⟨ρ2, b2, W2, es2, k1, k2, k3, k4, k5⟩ := k1
        exact ⟨ρ2, b2, W2, es2, k1, g2.trans k2, k3, k4, k5⟩

theorem Sim.map {R : (Nat → Nat → Prop) → α → β → Prop} {S : (Nat → Nat → Prop) → γ → δ → Prop} {s : Sem α} {s' : Sem β} {f : α → γ} {g : β → δ} (h : Sim P c ρ R s s')
    (k : ∀ ρ1, (∀ x y, ρ x y → ρ1 x y) → ∀ a b, R ρ1 a b → S ρ1 (f a) (g b)) : Sim P c ρ S (Functor.map f s) (Functor.map g s') :=
  Sim.bind (f := fun a => Pure.pure (f a)) (g := fun b => Pure.pure (g b)) h fun ρ1 hs a b hab => Sim.pure (k ρ1 hs a b hab)

theorem Sim.program : Sim P c ρ (fun _ a b => a = P ∧ b = P) Go.program Go.program :=
  .quiet fun w W es' hw he => ⟨.ok P w, fun _ _ => rfl, ρ, P, W, es', rfl, .refl .., hw, he, rfl, rfl⟩

theorem Sim.choose (q : Question) : Sim P c ρ (fun _ a b => a = b) (Go.choose q) (Go.choose q) := by
  by_cases hq : q.forced = true
  · refine .quiet fun w W es' hw he => ⟨.ok 0 w, fun τ d => by simp only [Go.choose, Sem.run, hq, if_true]; rfl, ρ, 0, W, es', ?_, .refl .., hw, he, rfl⟩
    simp only [Go.choose, Sem.runT, hq, if_true]
  · intro w W es' hw he
    refine ⟨fun _ q => W.tape W.drawn q, 1, .ok (q.cut (W.tape W.drawn q)) w, fun τ d ht => ?_, ?_⟩
    · have h3 : τ d q = W.tape W.drawn q := ht 0 q (by omega)
      simp only [Go.choose, Sem.run, hq, if_false, Bool.false_eq_true]
      show Result.ok (q.cut (τ d q)) _ = _
      rw [h3]; rfl
    · refine ⟨ρ, _, { W with drawn := W.drawn + 1 }, es', by simp only [Go.choose, Sem.runT, hq, if_false, Bool.false_eq_true], ⟨fun _ _ h => h, fun _ _ h => .inl h, fun _ h1 h2 => absurd h2 (Nat.not_lt.2 h1), Nat.le_refl _, Nat.le_refl _, fun _ _ _ => rfl, rfl, rfl, rfl⟩,
        ⟨hw.fn, hw.inj, hw.obj, hw.glob, hw.fz⟩, he, rfl⟩

theorem Sim.mark {m : Mark} (hm : m = .noRoom ∨ ∃ f, m = .extern f) : Sim P c ρ (fun _ _ _ => True) (Go.mark m) (Go.mark m) := by
  refine .quiet fun w W es' hw he => ⟨.ok () w, fun _ _ => rfl, ρ, (), W, es'.push ⟨.mark m, false, true⟩, rfl, .refl .., hw, fun e hm' => ?_, trivial⟩
  rcases Array.mem_push.1 hm' with h | rfl
  · exact he e h
  · rcases hm with rfl | ⟨f, rfl⟩
    · exact .inr (.inr (.inl rfl))
    · exact .inr (.inr (.inr ⟨f, rfl⟩))

/-- A load of one cell. -/
theorem Sim.load {b b' o : Nat} {s : Option Nat} (h : ρ b b') : Sim P c ρ (VR c) (Go.load ⟨b, o, s⟩) (Go.load ⟨b', o, s⟩) := by
  refine .quiet fun w W es' hw he => ?_
  obtain ⟨x, x', h1, h2, h3⟩ := hw.obj b b' h
  have h1' : ∀ τ d, (td w τ d).heap[b]? = w.heap[b]? := fun _ _ => rfl
  cases h3 with
  | number hA lost =>
    exact ⟨.halt (.stuck _) w, fun τ d => by
      have e1 : (td w τ d).cell? ⟨b, o, s⟩ = none := by simp [World.cell?, h1', h1]
      simp only [Go.load, Sem.run, e1, World.farLoad, h1', h1, World.noCell]
      rfl, trivial⟩
  | @cells xs xs' e lo hi lo' hi' hA hf =>
    cases s with
    | some k =>
      exact ⟨.halt (.stuck _) w, fun τ d => by
        have e1 : (td w τ d).cell? ⟨b, o, some k⟩ = none := by simp [World.cell?, h1', h1]
        simp only [Go.load, Sem.run, e1, World.farLoad, h1', h1, World.noCell]
        rfl, trivial⟩
    | none =>
      have e1 : ∀ τ d, (td w τ d).cell? ⟨b, o, none⟩ = xs[o]? := fun τ d => by simp [World.cell?, h1', h1]
      have e2 : W.cell? ⟨b', o, none⟩ = xs'[o]? := by simp [World.cell?, h2]
      cases hx : xs[o]? with
      | none =>
        exact ⟨.halt (.stuck _) w, fun τ d => by
          simp only [Go.load, Sem.run, e1, hx, World.farLoad, h1', h1, World.noCell]
          rfl, trivial⟩
      | some v =>
        have hlt : o < xs'.size := by rw [← hA.1]; exact (Array.getElem?_eq_some_iff.1 hx).1
        have hx' : xs'[o]? = some xs'[o] := Array.getElem?_eq_getElem hlt
        refine ⟨.ok v w, fun τ d => by simp only [Go.load, Sem.run, e1, hx]; rfl, ρ, xs'[o], W, es'.push ⟨.cell ⟨b', o, none⟩, false, false⟩, by simp only [Go.load, Sem.runT, e2, hx']; rfl, .refl .., hw, fun ev hm => ?_, hA.2 o _ _ hx hx'⟩
        rcases Array.mem_push.1 hm with hm | rfl
        · exact he ev hm
        · exact .inl ⟨b, b', o, none, false, rfl, h, fun h => by cases h⟩


theorem heap_setCell_at {w : World} {a : Addr} {v : Value} {xs : Array Value} {e : TypeId} {fr : Nat × Nat} (h : w.heap[a.block]? = some (.cells xs e fr)) (hs : a.spot = none) :
    (w.setCell a v).heap[a.block]? = some (.cells (xs.setIfInBounds a.off v) e fr) := by
  simp [World.setCell, Array.getElem?_modify, h, hs]
theorem heap_setCell_ne {w : World} {a : Addr} {v : Value} {b : Nat} (h : b ≠ a.block) : (w.setCell a v).heap[b]? = w.heap[b]? := by
  simp [World.setCell, Array.getElem?_modify, Ne.symm h]

theorem AR.set {xs xs' : Array Value} (h : AR c ρ xs xs') (o : Nat) {v v' : Value} (hv : VR c ρ v v') : AR c ρ (xs.setIfInBounds o v) (xs'.setIfInBounds o v') := by
  refine ⟨by simp [h.1], fun i u u' h1 h2 => ?_⟩
  rw [Array.getElem?_setIfInBounds] at h1 h2
  by_cases hi : o = i
  · subst hi
    have := h.1
    by_cases hlt : o < xs.size
    · rw [if_pos rfl, if_pos hlt] at h1
      rw [if_pos rfl, if_pos (by omega)] at h2
      cases h1; cases h2; exact hv
    · rw [if_pos rfl, if_neg hlt] at h1
      cases h1
  · rw [if_neg hi] at h1 h2
    exact h.2 i u u' h1 h2

theorem store_run {w : World} {a : Addr} {v : Value} (h1 : ∀ xs, v ≠ .agg xs) (h2 : ∀ xs, v ≠ .tuple xs) : (Go.store a v).run P w = match w.cell? a with
      | some _ => if w.frozen? a then .halt (.unsupported (.unsafePointer "a write to bytes that a string shares")) w else .ok () (w.setCell a v)
      | none => match w.farStore P a v false with
        | .ok (w, _) => .ok () w
        | .error h => .halt h w := by
  unfold Go.store
  rw [Sem.run]
  · rfl
  · exact h1
  · exact h2

/-- A store of one cell. -/
theorem Sim.store {b b' o : Nat} {s : Option Nat} (h : ρ b b') {v v' : Value} (hv : VR c ρ v v') : Sim P c ρ (fun _ _ _ => True) (Go.store ⟨b, o, s⟩ v) (Go.store ⟨b', o, s⟩ v') := by
  by_cases hag : (∃ xs, v = .agg xs) ∨ ∃ xs, v = .tuple xs
  · exact .quiet fun w W es' hw he => ⟨.halt (.stuck _) w, fun τ d => by
      rcases hag with ⟨xs, rfl⟩ | ⟨xs, rfl⟩ <;> simp only [Go.store, Sem.run] <;> rfl, trivial⟩
  have hn1 : ∀ xs, v ≠ .agg xs := fun xs e => hag (.inl ⟨xs, e⟩)
  have hn2 : ∀ xs, v ≠ .tuple xs := fun xs e => hag (.inr ⟨xs, e⟩)
  have hag' : (∀ xs, v' ≠ .agg xs) ∧ ∀ xs, v' ≠ .tuple xs := by
    refine ⟨fun xs e => ?_, fun xs e => ?_⟩ <;> subst e <;> cases hv <;> first | exact hag (.inr ⟨_, rfl⟩) | exact hag (.inl ⟨_, rfl⟩)
  refine .quiet fun w W es' hw he => ?_
  obtain ⟨x, x', h1, h2, h3⟩ := hw.obj b b' h
  have h1' : ∀ τ d, (td w τ d).heap[b]? = w.heap[b]? := fun _ _ => rfl
  cases h3 with
  | number hA lost =>
    exact ⟨.halt (.stuck _) w, fun τ d => by
      have e1 : (td w τ d).cell? ⟨b, o, s⟩ = none := by simp [World.cell?, h1', h1]
      rw [store_run hn1 hn2]
      simp only [e1, World.farStore, h1', h1, World.noCell]
      rfl, trivial⟩
  | @cells xs xs' e lo hi lo' hi' hA hf =>
    cases s with
    | some k =>
      exact ⟨.halt (.stuck _) w, fun τ d => by
        have e1 : (td w τ d).cell? ⟨b, o, some k⟩ = none := by simp [World.cell?, h1', h1]
        rw [store_run hn1 hn2]
        simp only [e1, World.farStore, h1', h1, World.noCell]
        rfl, trivial⟩
    | none =>
      have e1 : ∀ τ d, (td w τ d).cell? ⟨b, o, none⟩ = xs[o]? := fun τ d => by simp [World.cell?, h1', h1]
      have e2 : W.cell? ⟨b', o, none⟩ = xs'[o]? := by simp [World.cell?, h2]
      cases hx : xs[o]? with
      | none =>
        exact ⟨.halt (.stuck _) w, fun τ d => by
          rw [store_run hn1 hn2]
          simp only [e1, hx, World.farStore, h1', h1, World.noCell]
          rfl, trivial⟩
      | some u =>
        have hlt0 : o < xs.size := (Array.getElem?_eq_some_iff.1 hx).1
        have hlt : o < xs'.size := by rw [← hA.1]; exact hlt0
        have hx' : xs'[o]? = some xs'[o] := Array.getElem?_eq_getElem hlt
        by_cases hfr : lo ≤ o ∧ o < hi
        · refine ⟨.halt (.unsupported (.unsafePointer "a write to bytes that a string shares")) w, fun τ d => ?_, trivial⟩
          have hfz : (td w τ d).frozen? ⟨b, o, none⟩ = true := by simp [World.frozen?, h1', h1, hfr]
          rw [store_run hn1 hn2]
          simp only [e1, hx, hfz, if_true]
          rfl
        have hfz : ∀ τ d, (td w τ d).frozen? ⟨b, o, none⟩ = false := fun τ d => by
          simp only [World.frozen?, h1', h1, Bool.and_eq_false_iff, decide_eq_false_iff_not]
          omega
        have hfz' : W.frozen? ⟨b', o, none⟩ = false := by
          simp only [World.frozen?, h2, Bool.and_eq_false_iff, decide_eq_false_iff_not]
          by_cases g1 : lo' ≤ o
          · by_cases g2 : o < hi'
            · exact absurd (hf o g1 g2) hfr
            · exact .inr g2
          · exact .inl g1
        have hnf : ¬ c.Fz b := fun hz => by
          obtain ⟨o2, g1, g2⟩ := hw.fz b hz
          rw [h1] at g1
          obtain rfl := Option.some.inj g1
          obtain ⟨g3, g4⟩ := g2
          omega
        have e3 : (Go.store ⟨b', o, none⟩ v').runT P W es' = (.ok () (W.setCell ⟨b', o, none⟩ v'), es'.push ⟨.cell ⟨b', o, none⟩, true, false⟩) := by
          unfold Go.store
          rw [Sem.runT]
          · simp only [e2, hx', hfz', Sem.runT, Bool.false_eq_true, if_false]
            rfl
          · exact fun xs e => hag'.1 xs e
          · exact fun xs e => hag'.2 xs e
        refine ⟨.ok () (w.setCell ⟨b, o, none⟩ v), fun τ d => ?_, ρ, (), _, _, e3, ⟨fun _ _ h => h, fun _ _ h => .inl h, fun d h1 h2 => ?_, ?_, ?_, fun d _ hk => ?_, rfl, rfl, rfl⟩, ⟨hw.fn, hw.inj, fun d d' hd => ?_, hw.glob, fun d hd => ?_⟩, fun ev hm => ?_, trivial⟩
        · rw [store_run hn1 hn2]
          simp only [e1, hx, hfz, Bool.false_eq_true, if_false]
          rfl
        · simp [World.setCell] at h2; omega
        · simp [World.setCell]
        · simp [World.setCell]
        · refine heap_setCell_ne fun e => ?_
          subst e
          exact hnf (hk b h)
        · by_cases hdb : d = b
          · subst hdb
            obtain rfl := hw.fn _ _ _ h hd
            exact ⟨_, _, heap_setCell_at h1 rfl, heap_setCell_at h2 rfl, .cells e (hA.set o hv) hf⟩
          · have hdb' : d' ≠ b' := fun e => hdb (hw.inj _ _ _ (e ▸ hd) h)
            obtain ⟨y, y', g1, g2, g3⟩ := hw.obj d d' hd
            exact ⟨y, y', by rw [heap_setCell_ne hdb]; exact g1, by rw [heap_setCell_ne hdb']; exact g2, g3⟩
        · have hdb : d ≠ b := fun e => hnf (e ▸ hd)
          rw [heap_setCell_ne hdb]
          exact hw.fz d hd
        · rcases Array.mem_push.1 hm with hm | rfl
          · exact he ev hm
          · exact .inl ⟨b, b', o, none, true, rfl, h, fun _ => hnf⟩

/-- A new block. -/
theorem Sim.new {o o' : Obj} (h : OR c ρ o o') : Sim P c ρ (fun ρ1 n n' => ρ1 n n') (Go.newObj o) (Go.newObj o') := by
  refine .quiet fun w W es' hw he => ⟨.ok w.heap.size { w with heap := w.heap.push o }, fun _ _ => rfl, ?_⟩
  have hs : ∀ b b', ρ b b' → (fun x y => ρ x y ∨ (x = w.heap.size ∧ y = W.heap.size)) b b' := fun _ _ h => .inl h
  refine ⟨fun x y => ρ x y ∨ (x = w.heap.size ∧ y = W.heap.size), W.heap.size, { W with heap := W.heap.push o' }, es', rfl, ⟨hs, fun b b' hb => ?_, fun b' h1 h2 => ⟨w.heap.size, .inr ⟨rfl, ?_⟩, Nat.le_refl _⟩, by simp, by simp, fun b' hlt _ => ?_, rfl, rfl, rfl⟩,
    ⟨fun a b d h1 h2 => ?_, fun a b d h1 h2 => ?_, fun b b' hb => ?_, fun b hb => .inl (hw.glob b hb), fun b hb => ?_⟩, fun e hm => (he e hm).mono hs, .inr ⟨rfl, rfl⟩⟩
  · rcases hb with hb | ⟨rfl, rfl⟩
    · exact .inl hb
    · exact .inr ⟨Nat.le_refl _, Nat.le_refl _⟩
  · simp at h2; omega
  · have hne : W.heap.size ≠ b' := by omega
    simp [Array.getElem?_push, hne.symm]
  · rcases h1 with h1 | ⟨rfl, rfl⟩ <;> rcases h2 with h2 | ⟨e, rfl⟩
    · exact hw.fn _ _ _ h1 h2
    · have := (hw.lt h1).1; omega
    · have := (hw.lt h2).1; omega
    · rfl
  · rcases h1 with h1 | ⟨rfl, rfl⟩ <;> rcases h2 with h2 | ⟨rfl, e⟩
    · exact hw.inj _ _ _ h1 h2
    · have := (hw.lt h1).2; omega
    · have := (hw.lt h2).2; omega
    · rfl
  · rcases hb with hb | ⟨rfl, rfl⟩
    · obtain ⟨y, y', g1, g2, g3⟩ := hw.obj b b' hb
      have n1 : b ≠ w.heap.size := by have := (hw.lt hb).1; omega
      have n2 : b' ≠ W.heap.size := by have := (hw.lt hb).2; omega
      exact ⟨y, y', by simpa [Array.getElem?_push, n1] using g1, by simpa [Array.getElem?_push, n2] using g2, g3.mono hs⟩
    · exact ⟨o, o', by simp, by simp, h.mono hs⟩
  · obtain ⟨o2, g1, g2⟩ := hw.fz b hb
    have n1 : b ≠ w.heap.size := by have := hw.fz_lt hb; omega
    exact ⟨o2, by simpa [Array.getElem?_push, n1] using g1, g2⟩

theorem Sim.shape {b b' : Nat} (h : ρ b b') : Sim P c ρ (fun _ x y => x = y) (Go.shape b) (Go.shape b') := by
  refine .quiet fun w W es' hw he => ⟨.ok (w.shape? b) w, fun _ _ => rfl, ρ, _, W, es', rfl, .refl .., hw, he, ?_⟩
  obtain ⟨x, x', h1, h2, h3⟩ := hw.obj b b' h
  cases h3 with
  | @cells xs xs' e lo hi lo' hi' hA hf => simp [World.shape?, h1, h2, hA.1]
  | number => simp [World.shape?, h1, h2]

/-- What the company finds frozen is frozen in the lone world. -/
theorem Sim.frozen {b b' o : Nat} {s : Option Nat} (h : ρ b b') : Sim P c ρ (fun _ x y => y = true → x = true) (Go.frozen ⟨b, o, s⟩) (Go.frozen ⟨b', o, s⟩) := by
  refine .quiet fun w W es' hw he => ⟨.ok (w.frozen? ⟨b, o, s⟩) w, fun _ _ => rfl, ρ, _, W, es', rfl, .refl .., hw, he, ?_⟩
  obtain ⟨x, x', h1, h2, h3⟩ := hw.obj b b' h
  cases h3 with
  | @cells xs xs' e lo hi lo' hi' hA hf =>
    simp only [World.frozen?, h1, h2, Bool.and_eq_true, decide_eq_true_eq]
    exact fun x => hf o x.1 x.2
  | number => simp [World.frozen?, h2]

/-- A block that is no row of cells: a number that was an address. -/
theorem Sim.getObj {b b' : Nat} (h : ρ b b') : Sim P c ρ (fun ρ1 x y => ∃ a a' l, AdR ρ1 a a' ∧ x = .number a l ∧ y = .number a' l) (Go.getObj b) (Go.getObj b') := by
  refine .quiet fun w W es' hw he => ?_
  obtain ⟨x, x', h1, h2, h3⟩ := hw.obj b b' h
  have h1' : ∀ τ d, (td w τ d).heap[b]? = w.heap[b]? := fun _ _ => rfl
  cases h3 with
  | @cells xs xs' e lo hi lo' hi' hA hf => exact ⟨.halt (.stuck _) w, fun τ d => by simp only [Go.getObj, Sem.run, h1', h1]; rfl, trivial⟩
  | @number a a' hA lost =>
    refine ⟨.ok (.number a lost) w, fun τ d => by simp only [Go.getObj, Sem.run, h1', h1]; rfl, ρ, .number a' lost, W, es'.push ⟨.obj b', false, false⟩, by simp only [Go.getObj, Sem.runT, h2]; rfl, .refl .., hw, fun ev hm => ?_, a, a', lost, hA, rfl, rfl⟩
    rcases Array.mem_push.1 hm with hm | rfl
    · exact he ev hm
    · exact .inr (.inl ⟨b, b', rfl, h⟩)
end
end Go.Proofs.Ytngehfhcnfobbaa
