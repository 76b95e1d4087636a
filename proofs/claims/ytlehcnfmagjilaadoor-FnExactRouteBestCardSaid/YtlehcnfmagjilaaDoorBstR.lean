/- The best of routes: what the program does. No condition. -/
import Derived.Test.YtlehcnfmagjilaaDoorBstU
namespace Go.Proofs.YtlehcnfmagjilaaDoor
open Go Go.RowKit

theorem any_notAll2 {α : Type} {q : α → Bool} {l : List α} : l.any (fun r => !q r) = !l.all q := by
  induction l with
  | nil => rfl
  | cons a l ih => rw [List.any_cons, List.all_cons, ih, Bool.not_and]

set_option maxRecDepth 20000 in
set_option maxHeartbeats 8000000 in
theorem iRouteBest_any (ea : Addr) (l : List Rt) (a : Option Addr) (n c : Nat) (w : World) (h : SlRd w a n c l) (hb : l.length ≤ 1048576) (hp : EP w ea) :
    Calls Tryd.prog 25 #[.slice a n c] w fun x w' => x = .returned (.int .i64 (rbest l)) ∧ Ext w w' := by
  have H := hidden h
  have hm := h.2.2.1
  have hlc := h.2.1
  have HL := hidden h.1
  have hn := h.1
  unfold maxLen at hm
  have hC : ∀ W, Ext w W → Calls Tryd.prog 51 #[.slice a n c, .func (.func 52) #[] #[]] W fun e w' => e = .returned (.bool (!l.all rtOk)) ∧ Ext W w' := fun W hW => by
    rw [← any_notAll2]
    exact containsRt_any _ _ _ l (fun r => !rtOk r) 52 #[] W (callBody Tryd.func52 (by kernel_rfl) (by kernel_rfl)) (H.out.stays hW.below) (fun w' d a2 n2 c2 a3 n3 c3 hE g1 g2 => bestFn_any ea d _ _ _ _ _ _ w' g1 g2 (hp.later (hW.trans hE)))
  have HC := hidden hC
  clear hC
  rcases Nat.eq_zero_or_pos n with h0 | h0
  · subst h0
    obtain rfl : l = [] := List.eq_nil_of_length_eq_zero hn
    have HR := hidden rbest_nil
    go_enter Tryd.func25, Tryd.ntmps25
    go_wp2_with (first | ((first | with_reducible refine wp_region_qe (by kernel_rfl) (by kernel_rfl) ?_ | with_reducible refine wp_region_q (by kernel_rfl) (by kernel_rfl) ?_); (repeat' (first | go_big_quiet_step (fail) | (refine wpQuiet_split rfl rfl rfl rfl (fun hsp => ?_) (fun hsp => ?_); ((fail_if_success (cases hsp; done)); simp only [hsp]; (try first | have hsq : _ < _ := of_decide_eq_true hsp | have hsq : _ ≤ _ := of_decide_eq_true hsp | have hsq : ¬ _ < _ := of_decide_eq_false hsp | have hsq : ¬ _ ≤ _ := of_decide_eq_false hsp)); rotate_left; ((fail_if_success (cases hsp; done)); simp only [hsp]; (try first | have hsq : _ < _ := of_decide_eq_true hsp | have hsq : _ ≤ _ := of_decide_eq_true hsp | have hsq : ¬ _ < _ := of_decide_eq_false hsp | have hsq : ¬ _ ≤ _ := of_decide_eq_false hsp))))); (all_goals (refine wpQuiet_nil ?_; intro x))) | ((first | with_reducible refine wp_region_seqe (by kernel_rfl) (by kernel_rfl) ?_ | with_reducible refine wp_region_seqw (by kernel_rfl) (by kernel_rfl) ?_); (repeat' (first | ((with_reducible refine wpSeq_pure (by with_unfolding_all rfl) (fun Kq hKq => ?_)); (repeat' (first | go_big_quiet_step (fail) | (refine wpQuiet_split rfl rfl rfl rfl (fun hsp => ?_) (fun hsp => ?_); ((fail_if_success (cases hsp; done)); simp only [hsp]; (try first | have hsq : _ < _ := of_decide_eq_true hsp | have hsq : _ ≤ _ := of_decide_eq_true hsp | have hsq : ¬ _ < _ := of_decide_eq_false hsp | have hsq : ¬ _ ≤ _ := of_decide_eq_false hsp)); rotate_left; ((fail_if_success (cases hsp; done)); simp only [hsp]; (try first | have hsq : _ < _ := of_decide_eq_true hsp | have hsq : _ ≤ _ := of_decide_eq_true hsp | have hsq : ¬ _ < _ := of_decide_eq_false hsp | have hsq : ¬ _ ≤ _ := of_decide_eq_false hsp))))); (all_goals (refine wpQuiet_nil ?_; refine hKq _ ?_; clear hKq Kq))) | ((with_reducible refine wpSeq_act (by with_unfolding_all rfl) (fun Q' hQ' => ?_)); (go_wp2_with fail); (all_goals (refine hQ' _ _ rfl ?_ ?_; (change Ext _ _; exact (by repeat (first | with_reducible exact Ext.refl _ | with_reducible apply Ext.and | with_reducible apply Ext.drewx | with_reducible apply Ext.alloc | with_reducible apply Ext.ext | with_reducible apply Ext.drew | with_reducible refine Ext.setCell ?_ (by simp) _))); clear hQ' Q'))))); (all_goals ((with_reducible refine wpSeq_nil ?_)))))
    go_ret
    exact ⟨ret_int HR.out.symm, (by repeat (first | with_reducible exact Ext.refl _ | with_reducible apply Ext.and | with_reducible apply Ext.drewx | with_reducible apply Ext.alloc | with_reducible apply Ext.ext | with_reducible apply Ext.drew | with_reducible refine Ext.setCell ?_ (by simp) _))⟩
  have hnz : ((n : Int) == 0) = false := by simp; omega
  cases k2 : l.all rtOk
  · have HR := hidden (rbest_no k2)
    rw [k2] at HC
    go_enter Tryd.func25, Tryd.ntmps25
    go_wp2_with (first | (first | (go_at_call 51; (with_reducible refine (HC.out _ (by repeat (first | with_reducible exact Ext.refl _ | with_reducible apply Ext.and | with_reducible apply Ext.drewx | with_reducible apply Ext.alloc | with_reducible apply Ext.ext | with_reducible apply Ext.drew | with_reducible refine Ext.setCell ?_ (by simp) _))).mono ?_); rintro _ _ ⟨rfl, x, rfl⟩)) | ((first | with_reducible refine wp_region_qe (by kernel_rfl) (by kernel_rfl) ?_ | with_reducible refine wp_region_q (by kernel_rfl) (by kernel_rfl) ?_); (repeat' (first | go_big_quiet_step ((first | (go_at_call 51; first | with_reducible exact Calls.qb (by assumption) (HC.out _ (by repeat (first | with_reducible exact Ext.refl _ | with_reducible apply Ext.and | with_reducible apply Ext.drewx | with_reducible apply Ext.alloc | with_reducible apply Ext.ext | with_reducible apply Ext.drew | with_reducible refine Ext.setCell ?_ (by simp) _))) | with_reducible exact Calls.q (HC.out _ (by repeat (first | with_reducible exact Ext.refl _ | with_reducible apply Ext.and | with_reducible apply Ext.drewx | with_reducible apply Ext.alloc | with_reducible apply Ext.ext | with_reducible apply Ext.drew | with_reducible refine Ext.setCell ?_ (by simp) _)))))) | (refine wpQuiet_split rfl rfl rfl rfl (fun hsp => ?_) (fun hsp => ?_); ((fail_if_success (cases hsp; done)); simp only [hsp]; (try first | have hsq : _ < _ := of_decide_eq_true hsp | have hsq : _ ≤ _ := of_decide_eq_true hsp | have hsq : ¬ _ < _ := of_decide_eq_false hsp | have hsq : ¬ _ ≤ _ := of_decide_eq_false hsp)); rotate_left; ((fail_if_success (cases hsp; done)); simp only [hsp]; (try first | have hsq : _ < _ := of_decide_eq_true hsp | have hsq : _ ≤ _ := of_decide_eq_true hsp | have hsq : ¬ _ < _ := of_decide_eq_false hsp | have hsq : ¬ _ ≤ _ := of_decide_eq_false hsp))))); (all_goals (refine wpQuiet_nil ?_; intro x))) | ((first | with_reducible refine wp_region_seqe (by kernel_rfl) (by kernel_rfl) ?_ | with_reducible refine wp_region_seqw (by kernel_rfl) (by kernel_rfl) ?_); (repeat' (first | ((with_reducible refine wpSeq_pure (by with_unfolding_all rfl) (fun Kq hKq => ?_)); (repeat' (first | go_big_quiet_step (fail) | (refine wpQuiet_split rfl rfl rfl rfl (fun hsp => ?_) (fun hsp => ?_); ((fail_if_success (cases hsp; done)); simp only [hsp]; (try first | have hsq : _ < _ := of_decide_eq_true hsp | have hsq : _ ≤ _ := of_decide_eq_true hsp | have hsq : ¬ _ < _ := of_decide_eq_false hsp | have hsq : ¬ _ ≤ _ := of_decide_eq_false hsp)); rotate_left; ((fail_if_success (cases hsp; done)); simp only [hsp]; (try first | have hsq : _ < _ := of_decide_eq_true hsp | have hsq : _ ≤ _ := of_decide_eq_true hsp | have hsq : ¬ _ < _ := of_decide_eq_false hsp | have hsq : ¬ _ ≤ _ := of_decide_eq_false hsp))))); (all_goals (refine wpQuiet_nil ?_; refine hKq _ ?_; clear hKq Kq))) | ((with_reducible refine wpSeq_act (by with_unfolding_all rfl) (fun Q' hQ' => ?_)); (go_wp2_with (first | (go_at_call 51; (with_reducible refine (HC.out _ (by repeat (first | with_reducible exact Ext.refl _ | with_reducible apply Ext.and | with_reducible apply Ext.drewx | with_reducible apply Ext.alloc | with_reducible apply Ext.ext | with_reducible apply Ext.drew | with_reducible refine Ext.setCell ?_ (by simp) _))).mono ?_); rintro _ _ ⟨rfl, x, rfl⟩))); (all_goals (refine hQ' _ _ rfl ?_ ?_; (change Ext _ _; exact (by repeat (first | with_reducible exact Ext.refl _ | with_reducible apply Ext.and | with_reducible apply Ext.drewx | with_reducible apply Ext.alloc | with_reducible apply Ext.ext | with_reducible apply Ext.drew | with_reducible refine Ext.setCell ?_ (by simp) _))); clear hQ' Q'))))); (all_goals ((with_reducible refine wpSeq_nil ?_)))))
    go_ret
    exact ⟨ret_int HR.out.symm, (by repeat (first | with_reducible exact Ext.refl _ | with_reducible apply Ext.and | with_reducible apply Ext.drewx | with_reducible apply Ext.alloc | with_reducible apply Ext.ext | with_reducible apply Ext.drew | with_reducible refine Ext.setCell ?_ (by simp) _))⟩
  have HR := hidden (rbest_yes k2 (by omega))
  have HA := hidden k2
  rw [k2] at HC
  clear k2
  go_enter Tryd.func25, Tryd.ntmps25
  go_wp2_with (go_at_call 51; (with_reducible refine (HC.out _ (by repeat (first | with_reducible exact Ext.refl _ | with_reducible apply Ext.and | with_reducible apply Ext.drewx | with_reducible apply Ext.alloc | with_reducible apply Ext.ext | with_reducible apply Ext.drew | with_reducible refine Ext.setCell ?_ (by simp) _))).mono ?_); rintro _ _ ⟨rfl, z1, rfl⟩)
  generalize hB : w.heap.size + z1.objs.size = B
  go_loopw [17] (fun i wr => ∃ (k : Nat) (v : Value) (idx : List Int), k ≤ n ∧ i = .int .i64 k ∧ Hid (Cst w wr B a n c v idx) ∧ Hid (idx.length = k) ∧ Hid (k = 0 ∧ idx = [] ∨ 0 < k ∧ Hp l idx (bst l k : Int))) (fun i _ => n - (intOf i).toNat)
  case atStart => exact ⟨0, .slice none 0 0, [], Nat.zero_le _, rfl, hidden ⟨(by repeat (first | with_reducible exact Ext.refl _ | with_reducible apply Ext.and | with_reducible apply Ext.drewx | with_reducible apply Ext.alloc | with_reducible apply Ext.ext | with_reducible apply Ext.drew | with_reducible refine Ext.setCell ?_ (by simp) _)), by omega, Blk.newAt _ _ _ (by simp [hB]), AccF.nil⟩, hidden rfl, hidden (.inl ⟨rfl, rfl⟩)⟩
  case round =>
    obtain ⟨k, v, idx, hk, rfl, HCT, HLN, HQ⟩ := hrel
    by_cases hlt : k < n
    · rcases HQ.out with ⟨rfl, rfl⟩ | ⟨hk0, hH⟩
      · go_wp2_with (go_at_call 54; (with_reducible refine (hPush0_any l w B a n c v _ (HCT.out.ext ((by repeat (first | with_reducible exact Ext.refl _ | with_reducible apply Ext.and | with_reducible apply Ext.drewx | with_reducible apply Ext.alloc | with_reducible apply Ext.ext | with_reducible apply Ext.drew | with_reducible refine Ext.setCell ?_ (by simp) _)) : Ext wr _)) (by omega)).mono ?_); rintro _ w2 ⟨rfl, v2, C2, H2⟩; have HC2 := hidden C2; have HH2 := hidden H2; clear C2 H2)
        refine ⟨⟨1, v2, [0], by omega, by go_num, HC2, hidden rfl, hidden (.inr ⟨by omega, by rw [bst_one]; exact HH2.out⟩)⟩, by simp [intOf]; omega⟩
      · have HH := hidden hH
        have hbk := bst_lt (l := l) k hk0
        have hBT := hidden (bst_cast (l := l) (k := k))
        have ik : I64 (k : Int) := I64.mk (by omega) (by omega)
        have hln := HLN.out
        clear hH HQ
        go_wp2_with (go_at_call 54; (with_reducible refine (hPush_any ea l w B a n c v idx k (bst l k) _ (HCT.out.ext ((by repeat (first | with_reducible exact Ext.refl _ | with_reducible apply Ext.and | with_reducible apply Ext.drewx | with_reducible apply Ext.alloc | with_reducible apply Ext.ext | with_reducible apply Ext.drew | with_reducible refine Ext.setCell ?_ (by simp) _)) : Ext wr _)) H.out HA.out hp HH.out (by simp; omega) (by omega) (by omega) (by omega) ik).mono ?_); rintro _ w2 ⟨rfl, v2, i2, C2, L2, H2⟩; have HC2 := hidden C2; have HH2 := hidden H2; have HL2 := hidden L2; clear C2 H2 L2)
        refine ⟨⟨k + 1, v2, i2, by omega, by go_num, HC2, hidden (by rw [HL2.out]; omega), hidden (.inr ⟨by omega, by rw [← hBT.out]; exact HH2.out⟩)⟩, by simp [intOf]; omega⟩
    · obtain rfl : n = k := by omega
      obtain ⟨h1, h2⟩ := HQ.out.resolve_left (by omega)
      obtain ⟨g, d, rfl⟩ := HCT.out.shape
      have c1 := HCT.out.2.2.1.cell (j := 1) rfl
      have lt := HCT.out.2.2.1.lt
      have hs := HCT.out.2.2.2.sl
      have hi := HLN.out
      have hz : 0 < idx.length := by omega
      have hm2 := hs.2.2.1
      have hlc2 := hs.2.1
      unfold maxLen at hm2
      obtain ⟨x, phd, pb, poff, pys, rfl, phys, phcell, phrd⟩ := hs.at (Ext.refl wr) hz
      obtain ⟨rfl, pg0⟩ := phrd
      have pc0 : wr.cell? ⟨pb, poff + 0, none⟩ = some (.int .i64 x) := by have := phcell 0 _ rfl; simpa [Lay.n] using this
      have plb := cell_lt pc0
      have pHD := hidden phd
      clear phcell phys phd
      obtain rfl := Option.some.inj (h2.root.symm.trans pHD.out)
      have HRT := hidden h2
      clear h2 hs hi
      rw [Nat.add_zero] at pc0
      go_wp2
      go_ret
      exact ⟨ret_int (by rw [HR.out, HL.out]), HCT.out.1.trans (by repeat (first | with_reducible exact Ext.refl _ | with_reducible apply Ext.and | with_reducible apply Ext.drewx | with_reducible apply Ext.alloc | with_reducible apply Ext.ext | with_reducible apply Ext.drew | with_reducible refine Ext.setCell ?_ (by simp) _))⟩
end Go.Proofs.YtlehcnfmagjilaaDoor
