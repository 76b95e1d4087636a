/- Reading a range's text: what the reference does. No condition. -/
import Derived.Test.YtlehcnfmagjilaaDoorRdR
import Derived.Test.YtlehcnfmagjilaaDoorSeq
import Derived.Test.YtlehcnfmagjilaaDoorFloat
namespace Go.Proofs.YtlehcnfmagjilaaDoor
open Go Go.RowKit

theorem bs_get {l : List UInt8} {k : Nat} {c : UInt8} (h : l[k]? = some c) (h' : k < (bs l).size) : (bs l)[k]'h' = c := by
  obtain ⟨h1, h2⟩ := List.getElem?_eq_some_iff.1 h
  rw [← h2]
  show (bs l).data[k]'_ = _
  simp [bs]
theorem numF_at {l : List UInt8} {n k : Nat} {c : UInt8} (hc : l[k]? = some c) : numF n (l.drop k) = if 48 ≤ c.toNat ∧ c.toNat ≤ 57 then numF (10 * n + (c.toNat - 48)) (l.drop (k + 1)) else -1 := by
  obtain ⟨h1, h2⟩ := List.getElem?_eq_some_iff.1 hc
  rw [List.drop_eq_getElem_cons h1, h2]
  rfl

set_option maxRecDepth 20000 in
set_option maxHeartbeats 4000000 in
theorem l1Num_any (l : List UInt8) (w : World) (hl : l.length ≤ 10) : Calls Tryd.prog 41 #[.string (bs l)] w fun e w' => e = .returned (.int .i64 (numV l)) ∧ Ext w w' := by
  have hsz : (bs l).size = l.length := bs_size l
  by_cases hb : 1 ≤ l.length ∧ l.length ≤ 3
  case neg =>
    have hb1 : inB (l.length : Int) 1 3 = false := by rw [inB_false]; omega
    have HN := hidden (show numV l = -1 by unfold numV; rw [if_neg hb])
    go_enter Tryd.func41, Tryd.ntmps41
    go_wp2_with (first | (first | (go_at_call 65; (with_reducible refine ((hb1 ▸ l6In_any (l.length : Int) 1 3 _)).mono ?_); rintro _ _ ⟨rfl, x, rfl⟩)) | ((first | with_reducible refine wp_region_qe (by kernel_rfl) (by kernel_rfl) ?_ | with_reducible refine wp_region_q (by kernel_rfl) (by kernel_rfl) ?_); (repeat' (first | go_big_quiet_step ((first | (go_at_call 65; first | with_reducible exact Calls.qb (by assumption) ((hb1 ▸ l6In_any (l.length : Int) 1 3 _)) | with_reducible exact Calls.q ((hb1 ▸ l6In_any (l.length : Int) 1 3 _))))) | (refine wpQuiet_split rfl rfl rfl rfl (fun hsp => ?_) (fun hsp => ?_); ((fail_if_success (cases hsp; done)); simp only [hsp]; (try first | have hsq : _ < _ := of_decide_eq_true hsp | have hsq : _ ≤ _ := of_decide_eq_true hsp | have hsq : ¬ _ < _ := of_decide_eq_false hsp | have hsq : ¬ _ ≤ _ := of_decide_eq_false hsp)); rotate_left; ((fail_if_success (cases hsp; done)); simp only [hsp]; (try first | have hsq : _ < _ := of_decide_eq_true hsp | have hsq : _ ≤ _ := of_decide_eq_true hsp | have hsq : ¬ _ < _ := of_decide_eq_false hsp | have hsq : ¬ _ ≤ _ := of_decide_eq_false hsp))))); (all_goals (refine wpQuiet_nil ?_; intro x))))
    go_ret
    exact ⟨ret_int HN.out.symm, (by repeat (first | with_reducible exact Ext.refl _ | with_reducible apply Ext.and | with_reducible apply Ext.drewx | with_reducible apply Ext.alloc | with_reducible apply Ext.ext | with_reducible apply Ext.drew | with_reducible refine Ext.setCell ?_ (by simp) _))⟩
  have hb1 : inB (l.length : Int) 1 3 = true := by rw [inB_true]; omega
  have HN := hidden (show numV l = numF 0 l by unfold numV; rw [if_pos hb])
  have hl3 := hb.2
  have HSZ := hidden hsz
  go_enter Tryd.func41, Tryd.ntmps41
  go_wp2_with (first | (go_at_call 65; (with_reducible refine (hb1 ▸ l6In_any (l.length : Int) 1 3 _).mono ?_); rintro _ _ ⟨rfl, x, rfl⟩))
  go_loopw [3, 4] (fun v i wr => ∃ (k n : Nat), k ≤ l.length ∧ i = .int .i64 k ∧ v = .int .i64 n ∧ n < 1000 ∧ Hid (numF 0 l = numF n (l.drop k)) ∧ Hid (n < 10 ^ k) ∧ Ext w wr) (fun _ i _ => l.length - (intOf i).toNat)
  case atStart => exact ⟨0, 0, Nat.zero_le _, rfl, rfl, by omega, rfl, hidden (by simp), (by repeat (first | with_reducible exact Ext.refl _ | with_reducible apply Ext.and | with_reducible apply Ext.drewx | with_reducible apply Ext.alloc | with_reducible apply Ext.ext | with_reducible apply Ext.drew | with_reducible refine Ext.setCell ?_ (by simp) _))⟩
  case round =>
    obtain ⟨k, n, hk, rfl, rfl, hn, HF, HP, hE⟩ := hrel
    by_cases hlt : k < l.length
    · obtain ⟨c, hc⟩ : ∃ c, l[k]? = some c := ⟨_, List.getElem?_eq_getElem hlt⟩
      have hx := fun h => bs_get hc h
      have hks : k < (bs l).size := by omega
      have HC := hidden hc
      by_cases hd : 48 ≤ c.toNat ∧ c.toNat ≤ 57
      · have HD := hidden hd
        have h1 : decide ((c.toNat : Int) < 48) = false := by simp; omega
        have h2 : decide (57 < (c.toNat : Int)) = false := by simp; omega
        have hp1 : 10 * n + (c.toNat - 48) < 10 ^ (k + 1) := by have h3 := HP.out; rw [Nat.pow_succ]; omega
        have hp2 : 10 ^ (k + 1) ≤ 10 ^ 3 := Nat.pow_le_pow_right (by omega) (by omega)
        have HP1 := hidden hp1
        have hn1 : 10 * n + (c.toNat - 48) < 1000 := by omega
        clear hp1 hp2
        go_wp2_with (first | ((first | with_reducible refine wp_region_qe (by kernel_rfl) (by kernel_rfl) ?_ | with_reducible refine wp_region_q (by kernel_rfl) (by kernel_rfl) ?_); (repeat' (first | go_big_quiet_step (fail) | (refine wpQuiet_split rfl rfl rfl rfl (fun hsp => ?_) (fun hsp => ?_); ((fail_if_success (cases hsp; done)); simp only [hsp]; (try first | have hsq : _ < _ := of_decide_eq_true hsp | have hsq : _ ≤ _ := of_decide_eq_true hsp | have hsq : ¬ _ < _ := of_decide_eq_false hsp | have hsq : ¬ _ ≤ _ := of_decide_eq_false hsp)); rotate_left; ((fail_if_success (cases hsp; done)); simp only [hsp]; (try first | have hsq : _ < _ := of_decide_eq_true hsp | have hsq : _ ≤ _ := of_decide_eq_true hsp | have hsq : ¬ _ < _ := of_decide_eq_false hsp | have hsq : ¬ _ ≤ _ := of_decide_eq_false hsp))))); (all_goals (refine wpQuiet_nil ?_; intro x))))
        refine ⟨⟨k + 1, 10 * n + (c.toNat - 48), by omega, by go_num, int_eq (by have := HD.out; omega), hn1, ?_, HP1, (by first | exact hE | exact hE.ext _ | exact hE.trans (by repeat (first | with_reducible exact Ext.refl _ | with_reducible apply Ext.and | with_reducible apply Ext.drewx | with_reducible apply Ext.alloc | with_reducible apply Ext.ext | with_reducible apply Ext.drew | with_reducible refine Ext.setCell ?_ (by simp) _)))⟩, ?_⟩
        · refine hidden ?_
          rw [HF.out, numF_at HC.out, if_pos HD.out]
        · simp [intOf]; omega
      · have HM := hidden (show numV l = -1 by rw [HN.out, HF.out, numF_at HC.out, if_neg hd])
        by_cases hd1 : c.toNat < 48
        · have h1 : decide ((c.toNat : Int) < 48) = true := by simp; omega
          go_wp2_with (first | ((first | with_reducible refine wp_region_qe (by kernel_rfl) (by kernel_rfl) ?_ | with_reducible refine wp_region_q (by kernel_rfl) (by kernel_rfl) ?_); (repeat' (first | go_big_quiet_step (fail) | (refine wpQuiet_split rfl rfl rfl rfl (fun hsp => ?_) (fun hsp => ?_); ((fail_if_success (cases hsp; done)); simp only [hsp]; (try first | have hsq : _ < _ := of_decide_eq_true hsp | have hsq : _ ≤ _ := of_decide_eq_true hsp | have hsq : ¬ _ < _ := of_decide_eq_false hsp | have hsq : ¬ _ ≤ _ := of_decide_eq_false hsp)); rotate_left; ((fail_if_success (cases hsp; done)); simp only [hsp]; (try first | have hsq : _ < _ := of_decide_eq_true hsp | have hsq : _ ≤ _ := of_decide_eq_true hsp | have hsq : ¬ _ < _ := of_decide_eq_false hsp | have hsq : ¬ _ ≤ _ := of_decide_eq_false hsp))))); (all_goals (refine wpQuiet_nil ?_; intro x))))
          go_ret
          exact ⟨ret_int HM.out.symm, (by first | exact hE | exact hE.ext _ | exact hE.trans (by repeat (first | with_reducible exact Ext.refl _ | with_reducible apply Ext.and | with_reducible apply Ext.drewx | with_reducible apply Ext.alloc | with_reducible apply Ext.ext | with_reducible apply Ext.drew | with_reducible refine Ext.setCell ?_ (by simp) _)))⟩
        · have h1 : decide ((c.toNat : Int) < 48) = false := by simp; omega
          have h2 : decide (57 < (c.toNat : Int)) = true := by simp; omega
          go_wp2_with (first | ((first | with_reducible refine wp_region_qe (by kernel_rfl) (by kernel_rfl) ?_ | with_reducible refine wp_region_q (by kernel_rfl) (by kernel_rfl) ?_); (repeat' (first | go_big_quiet_step (fail) | (refine wpQuiet_split rfl rfl rfl rfl (fun hsp => ?_) (fun hsp => ?_); ((fail_if_success (cases hsp; done)); simp only [hsp]; (try first | have hsq : _ < _ := of_decide_eq_true hsp | have hsq : _ ≤ _ := of_decide_eq_true hsp | have hsq : ¬ _ < _ := of_decide_eq_false hsp | have hsq : ¬ _ ≤ _ := of_decide_eq_false hsp)); rotate_left; ((fail_if_success (cases hsp; done)); simp only [hsp]; (try first | have hsq : _ < _ := of_decide_eq_true hsp | have hsq : _ ≤ _ := of_decide_eq_true hsp | have hsq : ¬ _ < _ := of_decide_eq_false hsp | have hsq : ¬ _ ≤ _ := of_decide_eq_false hsp))))); (all_goals (refine wpQuiet_nil ?_; intro x))))
          go_ret
          exact ⟨ret_int HM.out.symm, (by first | exact hE | exact hE.ext _ | exact hE.trans (by repeat (first | with_reducible exact Ext.refl _ | with_reducible apply Ext.and | with_reducible apply Ext.drewx | with_reducible apply Ext.alloc | with_reducible apply Ext.ext | with_reducible apply Ext.drew | with_reducible refine Ext.setCell ?_ (by simp) _)))⟩
    · have HM := hidden (show numV l = n by rw [HN.out, HF.out, List.drop_eq_nil_of_le (by omega)]; rfl)
      go_wp2_with (first | ((first | with_reducible refine wp_region_qe (by kernel_rfl) (by kernel_rfl) ?_ | with_reducible refine wp_region_q (by kernel_rfl) (by kernel_rfl) ?_); (repeat' (first | go_big_quiet_step (fail) | (refine wpQuiet_split rfl rfl rfl rfl (fun hsp => ?_) (fun hsp => ?_); ((fail_if_success (cases hsp; done)); simp only [hsp]; (try first | have hsq : _ < _ := of_decide_eq_true hsp | have hsq : _ ≤ _ := of_decide_eq_true hsp | have hsq : ¬ _ < _ := of_decide_eq_false hsp | have hsq : ¬ _ ≤ _ := of_decide_eq_false hsp)); rotate_left; ((fail_if_success (cases hsp; done)); simp only [hsp]; (try first | have hsq : _ < _ := of_decide_eq_true hsp | have hsq : _ ≤ _ := of_decide_eq_true hsp | have hsq : ¬ _ < _ := of_decide_eq_false hsp | have hsq : ¬ _ ≤ _ := of_decide_eq_false hsp))))); (all_goals (refine wpQuiet_nil ?_; intro x))))
      go_ret
      exact ⟨ret_int HM.out.symm, (by first | exact hE | exact hE.ext _ | exact hE.trans (by repeat (first | with_reducible exact Ext.refl _ | with_reducible apply Ext.and | with_reducible apply Ext.drewx | with_reducible apply Ext.alloc | with_reducible apply Ext.ext | with_reducible apply Ext.drew | with_reducible refine Ext.setCell ?_ (by simp) _)))⟩

theorem l1Num_of (l : List UInt8) (s : ByteArray) (hs : s = bs l) (w : World) (hl : l.length ≤ 10) : Calls Tryd.prog 41 #[.string s] w fun e w' => e = .returned (.int .i64 (numV l)) ∧ Ext w w' := hs ▸ l1Num_any l w hl
theorem bs_take (l : List UInt8) (k : Nat) : (bs l).extract 0 k = bs (l.take k) := by
  apply ByteArray.ext
  simp [bs]
theorem bs_drop (l : List UInt8) (k n : Nat) (h : n = l.length) : (bs l).extract k n = bs (l.drop k) := by
  subst h
  apply ByteArray.ext
  simp [bs]
  exact List.take_of_length_le (by simp)
theorem split_at {l : List UInt8} {k : Nat} {c : UInt8} (hc : l[k]? = some c) : l = l.take k ++ c :: l.drop (k + 1) := by
  obtain ⟨h1, h2⟩ := List.getElem?_eq_some_iff.1 hc
  have h3 := List.drop_eq_getElem_cons h1
  rw [h2] at h3
  rw [← h3, List.take_append_drop]

theorem text_eq {r : Rg} {l : List UInt8} (hl : l ≠ []) : ((rangeText r).toList == (bs l).toList) = (rok r.f r.b && decide (rtx r = l)) := by
  cases h : rok r.f r.b
  · rw [rangeText_no h, toList_bs, toList_bs, Bool.false_and, beq_eq_false_iff_ne]
    exact Ne.symm hl
  · rw [rangeText_yes h, toList_bs, toList_bs, Bool.true_and]
    by_cases e : rtx r = l
    · rw [e]; simp
    · rw [beq_eq_false_iff_ne.2 e, decide_eq_false e]

set_option maxRecDepth 20000 in
set_option maxHeartbeats 4000000 in
theorem sRangeRead_any (l : List UInt8) (hl : l.length ≤ 1048576) (w : World) : Calls Tryd.prog 16 #[.string (bs l)] w fun e w' => e = .returned (.tuple #[.agg #[.int .i64 (rdR l).1.f, .int .i64 (rdR l).1.b], .bool (rdR l).2]) ∧ Ext w w' := by
  have hsz : (bs l).size = l.length := bs_size l
  by_cases h5 : 5 < l.length
  · have HR := hidden (rdR_long h5)
    have hg : decide (5 < (l.length : Int)) = true := by simp; omega
    go_enter Tryd.func16, Tryd.ntmps16
    go_wp2_with (first | ((first | with_reducible refine wp_region_qe (by kernel_rfl) (by kernel_rfl) ?_ | with_reducible refine wp_region_q (by kernel_rfl) (by kernel_rfl) ?_); (repeat' (first | go_big_quiet_step (fail) | (refine wpQuiet_split rfl rfl rfl rfl (fun hsp => ?_) (fun hsp => ?_); ((fail_if_success (cases hsp; done)); simp only [hsp]; (try first | have hsq : _ < _ := of_decide_eq_true hsp | have hsq : _ ≤ _ := of_decide_eq_true hsp | have hsq : ¬ _ < _ := of_decide_eq_false hsp | have hsq : ¬ _ ≤ _ := of_decide_eq_false hsp)); rotate_left; ((fail_if_success (cases hsp; done)); simp only [hsp]; (try first | have hsq : _ < _ := of_decide_eq_true hsp | have hsq : _ ≤ _ := of_decide_eq_true hsp | have hsq : ¬ _ < _ := of_decide_eq_false hsp | have hsq : ¬ _ ≤ _ := of_decide_eq_false hsp))))); (all_goals (refine wpQuiet_nil ?_; intro x))) | ((first | with_reducible refine wp_region_seqe (by kernel_rfl) (by kernel_rfl) ?_ | with_reducible refine wp_region_seqw (by kernel_rfl) (by kernel_rfl) ?_); (repeat' (first | ((with_reducible refine wpSeq_pure (by with_unfolding_all rfl) (fun Kq hKq => ?_)); (repeat' (first | go_big_quiet_step (fail) | (refine wpQuiet_split rfl rfl rfl rfl (fun hsp => ?_) (fun hsp => ?_); ((fail_if_success (cases hsp; done)); simp only [hsp]; (try first | have hsq : _ < _ := of_decide_eq_true hsp | have hsq : _ ≤ _ := of_decide_eq_true hsp | have hsq : ¬ _ < _ := of_decide_eq_false hsp | have hsq : ¬ _ ≤ _ := of_decide_eq_false hsp)); rotate_left; ((fail_if_success (cases hsp; done)); simp only [hsp]; (try first | have hsq : _ < _ := of_decide_eq_true hsp | have hsq : _ ≤ _ := of_decide_eq_true hsp | have hsq : ¬ _ < _ := of_decide_eq_false hsp | have hsq : ¬ _ ≤ _ := of_decide_eq_false hsp))))); (all_goals (refine wpQuiet_nil ?_; refine hKq _ ?_; clear hKq Kq))) | ((with_reducible refine wpSeq_act (by with_unfolding_all rfl) (fun Q' hQ' => ?_)); (go_wp2_with fail); (all_goals (refine hQ' _ _ rfl ?_ ?_; (change Ext _ _; exact (by repeat (first | with_reducible exact Ext.refl _ | with_reducible apply Ext.and | with_reducible apply Ext.drewx | with_reducible apply Ext.alloc | with_reducible apply Ext.ext | with_reducible apply Ext.drew | with_reducible refine Ext.setCell ?_ (by simp) _))); clear hQ' Q'))))); (all_goals ((with_reducible refine wpSeq_nil ?_)))))
    rw [HR.out]
    exact bodyPost_ret (v := .tuple #[.agg #[.int .i64 0, .int .i64 0], .bool false]) (by simp [results, Tryd.results16, go_sem]) rfl ⟨rfl, (by repeat (first | with_reducible exact Ext.refl _ | with_reducible apply Ext.and | with_reducible apply Ext.drewx | with_reducible apply Ext.alloc | with_reducible apply Ext.ext | with_reducible apply Ext.drew | with_reducible refine Ext.setCell ?_ (by simp) _))⟩
  have hg : decide (5 < (l.length : Int)) = false := by simp; omega
  have hl5 : l.length ≤ 5 := by omega
  have HSZ := hidden hsz
  go_enter Tryd.func16, Tryd.ntmps16
  go_wp2_with fail
  go_loopw [4] (fun i wr => ∃ (k : Nat), k ≤ l.length ∧ i = .int .i64 k ∧ Hid ((47 : UInt8) ∉ l.take k) ∧ Hid (Blk wr w.heap.size 36 [.int .i64 0, .int .i64 0]) ∧ Ext w wr) (fun i _ => l.length - (intOf i).toNat)
  case atStart => exact ⟨0, Nat.zero_le _, rfl, hidden (by simp), hidden (Blk.new w #[.int .i64 0, .int .i64 0] _), (by repeat (first | with_reducible exact Ext.refl _ | with_reducible apply Ext.and | with_reducible apply Ext.drewx | with_reducible apply Ext.alloc | with_reducible apply Ext.ext | with_reducible apply Ext.drew | with_reducible refine Ext.setCell ?_ (by simp) _))⟩
  case round =>
    obtain ⟨k, hk, rfl, HN, HB, hE⟩ := hrel
    have z0 := HB.out.cell (j := 0) rfl
    have z1 := HB.out.cell (j := 1) rfl
    have zf0 := HB.out.frozen 0
    have zf1 := HB.out.frozen 1
    have zl := HB.out.lt
    by_cases hlt : k < l.length
    · obtain ⟨c, hc⟩ : ∃ c, l[k]? = some c := ⟨_, List.getElem?_eq_getElem hlt⟩
      have hx := fun h => bs_get hc h
      have hks : k < (bs l).size := by omega
      have HC := hidden hc
      by_cases hd : c = 47
      · have h1 : ((c.toNat : Int) == 47) = true := by rw [hd]; rfl
        have HA := hidden (show l = l.take k ++ 47 :: l.drop (k + 1) from hd ▸ split_at HC.out)
        obtain ⟨A, hA⟩ : ∃ A, l.take k = A := ⟨_, rfl⟩
        obtain ⟨A2, hB⟩ : ∃ A2, l.drop (k + 1) = A2 := ⟨_, rfl⟩
        have hlA : A.length ≤ 10 := by rw [← hA, List.length_take]; omega
        have hlB : A2.length ≤ 10 := by rw [← hB, List.length_drop]; omega
        have HTA := hidden (show (bs l).extract 0 k = bs A by rw [bs_take, hA])
        have HTB := hidden (show (bs l).extract (k + 1) (bs l).size = bs A2 by rw [bs_drop l _ _ (bs_size l), hB])
        have h2 : (k : Int) ≤ ((bs l).size : Int) := by omega
        have h3 : (k : Int) + 1 ≤ ((bs l).size : Int) := by omega
        have h4 : (0 : Int) ≤ (k : Int) + 1 := by omega
        have h6 : k ≤ (bs l).size := by omega
        have h7 : k + 1 ≤ (bs l).size := by omega
        have tk := True.intro
        rw [hA, hB] at HA
        rw [hA] at HN
        clear hA hB hd hc hg hsz
        have HQ := hidden (text_eq (r := ⟨numV A, numV A2⟩) (l := l) (by rw [HA.out]; simp))
        cases hq : (rok (numV A) (numV A2) && decide (rtx ⟨numV A, numV A2⟩ = A ++ 47 :: A2))
        case false =>
          have HR := hidden (show rdR l = (⟨0, 0⟩, false) by rw [HA.out]; exact rdR_at HN.out hq)
          have hbq : ((rangeText ⟨numV A, numV A2⟩).toList == (bs l).toList) = false := by rw [HQ.out, HA.out]; exact hq
          clear hq
          go_upto_region 7 with fail
          refine wp_name (fun V hV => ?_)
          have hXV : Ext wr V := by rw [hV]; exact (by repeat (first | with_reducible exact Ext.refl _ | with_reducible apply Ext.and | with_reducible apply Ext.drewx | with_reducible apply Ext.alloc | with_reducible apply Ext.ext | with_reducible apply Ext.drew | with_reducible refine Ext.setCell ?_ (by simp) _))
          clear hV
          (with_reducible refine wp_region_seqF (by kernel_rfl) (by kernel_rfl) (fun w0 hE0 _ _ => ?_)); (repeat' (first | ((with_reducible refine wpSeqF_pure (by with_unfolding_all rfl) (fun Kq hKq => ?_)); (repeat' (go_big_quiet_step (fail))); (all_goals (refine wpQuiet_nil ?_; refine hKq _ ?_; clear hKq Kq))) | ((with_reducible refine wpSeqF_act (by with_unfolding_all rfl) (by with_unfolding_all rfl) (fun w1 he1 Q' hQ' => ?_)); (go_wp2_with (first | ((go_at_call 41; (with_reducible refine (l1Num_of A _ HTA.out _ hlA).mono ?_); rintro _ _ ⟨rfl, xf, rfl⟩)) | ((go_at_call 41; (with_reducible refine (l1Num_of A2 _ HTB.out _ hlB).mono ?_); rintro _ _ ⟨rfl, xf, rfl⟩)))); (all_goals (refine hQ' _ _ rfl (by repeat (first | with_reducible assumption | with_reducible exact Ext.refl _ | with_reducible apply Ext.and | with_reducible apply Ext.drewx | with_reducible apply Ext.alloc | with_reducible apply Ext.ext | with_reducible apply Ext.drew | with_reducible refine Ext.setCell ?_ (by assumption) _ | with_reducible refine Ext.trans ?_ (by with_reducible assumption))) ?_; clear hQ' Q'))) | ((with_reducible refine wpSeqF_alloc (by with_unfolding_all rfl) (by with_unfolding_all rfl) (by with_unfolding_all rfl) 36 #[.int .i64 0, .int .i64 0] (by intro w; go_simp) (fun B w' heB hb hwb hd => ?_)); have hb0 := hb.cell (j := 0) rfl; have hf0 := hb.frozen 0; have hb1 := hb.cell (j := 1) rfl; have hf1 := hb.frozen 1; have hbl := hb.lt) | ((with_reducible refine wpSeqF_brk (by with_unfolding_all rfl) (by with_unfolding_all rfl) (by with_unfolding_all rfl) (by with_unfolding_all rfl) (fun Q' hQ' => ?_)); (go_wp2_with fail); (all_goals (refine hQ' _ _ rfl (by repeat (first | with_reducible assumption | with_reducible exact Ext.refl _ | with_reducible apply Ext.and | with_reducible apply Ext.drewx | with_reducible apply Ext.alloc | with_reducible apply Ext.ext | with_reducible apply Ext.drew | with_reducible refine Ext.setCell ?_ (by assumption) _ | with_reducible refine Ext.trans ?_ (by with_reducible assumption))) ?_; clear hQ' Q'))))); (all_goals (with_reducible refine wpSeqF_nil ?_))
          all_goals
            have hEw : Ext wr w' := hXV.trans (by repeat (first | with_reducible assumption | with_reducible exact Ext.refl _ | with_reducible apply Ext.and | with_reducible apply Ext.drewx | with_reducible apply Ext.alloc | with_reducible apply Ext.ext | with_reducible apply Ext.drew | with_reducible refine Ext.setCell ?_ (by assumption) _ | with_reducible refine Ext.trans ?_ (by with_reducible assumption)))
            have hnB : w.heap.size ≠ B := by have := hXV.size; omega
            have BR := ((HB.out.extends hEw).setOther (.int .i64 (numV A)) (a := ⟨B, 0, none⟩) hnB).setOther (.int .i64 (numV A2)) (a := ⟨B, 1, none⟩) hnB
            have BB := (hb.set 0 (.int .i64 (numV A))).set 1 (.int .i64 (numV A2))
            have hE2 : Ext w ((w'.setCell ⟨B, 0, none⟩ (.int .i64 (numV A))).setCell ⟨B, 1, none⟩ (.int .i64 (numV A2))) := Ext.setCell (Ext.setCell (hE.trans hEw) (by show w.heap.size ≤ B; have := (hE.trans hXV).size; omega) _) (by show w.heap.size ≤ B; have := (hE.trans hXV).size; omega) _
            generalize ((w'.setCell ⟨B, 0, none⟩ (.int .i64 (numV A))).setCell ⟨B, 1, none⟩ (.int .i64 (numV A2))) = W2 at *
            clear z0 z1 zf0 zf1 zl hb0 hb1 hf0 hf1 hbl hb
            have z0 := BR.cell (j := 0) rfl
            have z1 := BR.cell (j := 1) rfl
            have zf0 := BR.frozen 0
            have zf1 := BR.frozen 1
            have zl := BR.lt
            have b0 := BB.cell (j := 0) rfl
            have b1 := BB.cell (j := 1) rfl
            have bl := BB.lt
            go_wp2_with (first | (go_at_call 42; (with_reducible refine (sRangeText_any ⟨numV A, numV A2⟩ _).mono ?_); rintro _ _ ⟨rfl, xr, rfl⟩; have y0 := (BR.extends (Ext.ext (Ext.refl W2) xr)).cell (j := 0) rfl; have y1 := (BR.extends (Ext.ext (Ext.refl W2) xr)).cell (j := 1) rfl))
            rw [HR.out]
            exact bodyPost_ret (v := .tuple #[.agg #[.int .i64 0, .int .i64 0], .bool false]) (by simp [results, Tryd.results16, go_sem, y0, y1]) rfl ⟨rfl, (by repeat (first | with_reducible assumption | with_reducible exact Ext.refl _ | with_reducible apply Ext.and | with_reducible apply Ext.drewx | with_reducible apply Ext.alloc | with_reducible apply Ext.ext | with_reducible apply Ext.drew | with_reducible refine Ext.setCell ?_ (by simp) _))⟩
        case true =>
          have HR := hidden (show rdR l = (⟨numV A, numV A2⟩, true) by
            rw [Bool.and_eq_true, decide_eq_true_eq] at hq
            exact rdR_yes (r := ⟨numV A, numV A2⟩) hq.1 (hq.2.trans HA.out.symm))
          have hbq : ((rangeText ⟨numV A, numV A2⟩).toList == (bs l).toList) = true := by rw [HQ.out, HA.out]; exact hq
          clear hq
          go_upto_region 7 with fail
          refine wp_name (fun V hV => ?_)
          have hXV : Ext wr V := by rw [hV]; exact (by repeat (first | with_reducible exact Ext.refl _ | with_reducible apply Ext.and | with_reducible apply Ext.drewx | with_reducible apply Ext.alloc | with_reducible apply Ext.ext | with_reducible apply Ext.drew | with_reducible refine Ext.setCell ?_ (by simp) _))
          clear hV
          (with_reducible refine wp_region_seqF (by kernel_rfl) (by kernel_rfl) (fun w0 hE0 _ _ => ?_)); (repeat' (first | ((with_reducible refine wpSeqF_pure (by with_unfolding_all rfl) (fun Kq hKq => ?_)); (repeat' (go_big_quiet_step (fail))); (all_goals (refine wpQuiet_nil ?_; refine hKq _ ?_; clear hKq Kq))) | ((with_reducible refine wpSeqF_act (by with_unfolding_all rfl) (by with_unfolding_all rfl) (fun w1 he1 Q' hQ' => ?_)); (go_wp2_with (first | ((go_at_call 41; (with_reducible refine (l1Num_of A _ HTA.out _ hlA).mono ?_); rintro _ _ ⟨rfl, xf, rfl⟩)) | ((go_at_call 41; (with_reducible refine (l1Num_of A2 _ HTB.out _ hlB).mono ?_); rintro _ _ ⟨rfl, xf, rfl⟩)))); (all_goals (refine hQ' _ _ rfl (by repeat (first | with_reducible assumption | with_reducible exact Ext.refl _ | with_reducible apply Ext.and | with_reducible apply Ext.drewx | with_reducible apply Ext.alloc | with_reducible apply Ext.ext | with_reducible apply Ext.drew | with_reducible refine Ext.setCell ?_ (by assumption) _ | with_reducible refine Ext.trans ?_ (by with_reducible assumption))) ?_; clear hQ' Q'))) | ((with_reducible refine wpSeqF_alloc (by with_unfolding_all rfl) (by with_unfolding_all rfl) (by with_unfolding_all rfl) 36 #[.int .i64 0, .int .i64 0] (by intro w; go_simp) (fun B w' heB hb hwb hd => ?_)); have hb0 := hb.cell (j := 0) rfl; have hf0 := hb.frozen 0; have hb1 := hb.cell (j := 1) rfl; have hf1 := hb.frozen 1; have hbl := hb.lt) | ((with_reducible refine wpSeqF_brk (by with_unfolding_all rfl) (by with_unfolding_all rfl) (by with_unfolding_all rfl) (by with_unfolding_all rfl) (fun Q' hQ' => ?_)); (go_wp2_with fail); (all_goals (refine hQ' _ _ rfl (by repeat (first | with_reducible assumption | with_reducible exact Ext.refl _ | with_reducible apply Ext.and | with_reducible apply Ext.drewx | with_reducible apply Ext.alloc | with_reducible apply Ext.ext | with_reducible apply Ext.drew | with_reducible refine Ext.setCell ?_ (by assumption) _ | with_reducible refine Ext.trans ?_ (by with_reducible assumption))) ?_; clear hQ' Q'))))); (all_goals (with_reducible refine wpSeqF_nil ?_))
          all_goals
            have hEw : Ext wr w' := hXV.trans (by repeat (first | with_reducible assumption | with_reducible exact Ext.refl _ | with_reducible apply Ext.and | with_reducible apply Ext.drewx | with_reducible apply Ext.alloc | with_reducible apply Ext.ext | with_reducible apply Ext.drew | with_reducible refine Ext.setCell ?_ (by assumption) _ | with_reducible refine Ext.trans ?_ (by with_reducible assumption)))
            have hnB : w.heap.size ≠ B := by have := hXV.size; omega
            have BR := ((HB.out.extends hEw).setOther (.int .i64 (numV A)) (a := ⟨B, 0, none⟩) hnB).setOther (.int .i64 (numV A2)) (a := ⟨B, 1, none⟩) hnB
            have BB := (hb.set 0 (.int .i64 (numV A))).set 1 (.int .i64 (numV A2))
            have hE2 : Ext w ((w'.setCell ⟨B, 0, none⟩ (.int .i64 (numV A))).setCell ⟨B, 1, none⟩ (.int .i64 (numV A2))) := Ext.setCell (Ext.setCell (hE.trans hEw) (by show w.heap.size ≤ B; have := (hE.trans hXV).size; omega) _) (by show w.heap.size ≤ B; have := (hE.trans hXV).size; omega) _
            generalize ((w'.setCell ⟨B, 0, none⟩ (.int .i64 (numV A))).setCell ⟨B, 1, none⟩ (.int .i64 (numV A2))) = W2 at *
            clear z0 z1 zf0 zf1 zl hb0 hb1 hf0 hf1 hbl hb
            have z0 := BR.cell (j := 0) rfl
            have z1 := BR.cell (j := 1) rfl
            have zf0 := BR.frozen 0
            have zf1 := BR.frozen 1
            have zl := BR.lt
            have b0 := BB.cell (j := 0) rfl
            have b1 := BB.cell (j := 1) rfl
            have bl := BB.lt
            go_wp2_with (first | (go_at_call 42; (with_reducible refine (sRangeText_any ⟨numV A, numV A2⟩ _).mono ?_); rintro _ _ ⟨rfl, xr, rfl⟩; have y0 := (BR.extends (Ext.ext (Ext.refl W2) xr)).cell (j := 0) rfl; have y1 := (BR.extends (Ext.ext (Ext.refl W2) xr)).cell (j := 1) rfl))
            rw [HR.out]
            exact bodyPost_ret (v := .tuple #[.agg #[.int .i64 (numV A), .int .i64 (numV A2)], .bool true]) (by simp [results, Tryd.results16, go_sem, y0, y1]) rfl ⟨rfl, (by repeat (first | with_reducible assumption | with_reducible exact Ext.refl _ | with_reducible apply Ext.and | with_reducible apply Ext.drewx | with_reducible apply Ext.alloc | with_reducible apply Ext.ext | with_reducible apply Ext.drew | with_reducible refine Ext.setCell ?_ (by simp) _))⟩
      · have h1 : ((c.toNat : Int) == 47) = false := by rw [beq_eq_false_iff_ne]; intro e; apply hd; apply UInt8.toNat_inj.1; show c.toNat = 47; omega
        have HN1 := hidden (show (47 : UInt8) ∉ l.take (k + 1) by
          rw [List.take_add_one, hc]
          intro hm
          rcases List.mem_append.1 hm with hm | hm
          · exact HN.out hm
          · simp at hm; exact hd hm.symm)
        clear hd hc
        go_wp2_with (first | ((first | with_reducible refine wp_region_qe (by kernel_rfl) (by kernel_rfl) ?_ | with_reducible refine wp_region_q (by kernel_rfl) (by kernel_rfl) ?_); (repeat' (first | go_big_quiet_step (fail) | (refine wpQuiet_split rfl rfl rfl rfl (fun hsp => ?_) (fun hsp => ?_); ((fail_if_success (cases hsp; done)); simp only [hsp]; (try first | have hsq : _ < _ := of_decide_eq_true hsp | have hsq : _ ≤ _ := of_decide_eq_true hsp | have hsq : ¬ _ < _ := of_decide_eq_false hsp | have hsq : ¬ _ ≤ _ := of_decide_eq_false hsp)); rotate_left; ((fail_if_success (cases hsp; done)); simp only [hsp]; (try first | have hsq : _ < _ := of_decide_eq_true hsp | have hsq : _ ≤ _ := of_decide_eq_true hsp | have hsq : ¬ _ < _ := of_decide_eq_false hsp | have hsq : ¬ _ ≤ _ := of_decide_eq_false hsp))))); (all_goals (refine wpQuiet_nil ?_; intro x))) | ((first | with_reducible refine wp_region_seqe (by kernel_rfl) (by kernel_rfl) ?_ | with_reducible refine wp_region_seqw (by kernel_rfl) (by kernel_rfl) ?_); (repeat' (first | ((with_reducible refine wpSeq_pure (by with_unfolding_all rfl) (fun Kq hKq => ?_)); (repeat' (first | go_big_quiet_step (fail) | (refine wpQuiet_split rfl rfl rfl rfl (fun hsp => ?_) (fun hsp => ?_); ((fail_if_success (cases hsp; done)); simp only [hsp]; (try first | have hsq : _ < _ := of_decide_eq_true hsp | have hsq : _ ≤ _ := of_decide_eq_true hsp | have hsq : ¬ _ < _ := of_decide_eq_false hsp | have hsq : ¬ _ ≤ _ := of_decide_eq_false hsp)); rotate_left; ((fail_if_success (cases hsp; done)); simp only [hsp]; (try first | have hsq : _ < _ := of_decide_eq_true hsp | have hsq : _ ≤ _ := of_decide_eq_true hsp | have hsq : ¬ _ < _ := of_decide_eq_false hsp | have hsq : ¬ _ ≤ _ := of_decide_eq_false hsp))))); (all_goals (refine wpQuiet_nil ?_; refine hKq _ ?_; clear hKq Kq))) | ((with_reducible refine wpSeq_act (by with_unfolding_all rfl) (fun Q' hQ' => ?_)); (go_wp2_with fail); (all_goals (refine hQ' _ _ rfl ?_ ?_; (change Ext _ _; exact (by repeat (first | with_reducible exact Ext.refl _ | with_reducible apply Ext.and | with_reducible apply Ext.drewx | with_reducible apply Ext.alloc | with_reducible apply Ext.ext | with_reducible apply Ext.drew | with_reducible refine Ext.setCell ?_ (by simp) _))); clear hQ' Q'))))); (all_goals ((with_reducible refine wpSeq_nil ?_)))))
        go_roundw
        case rel => exact ⟨k + 1, by omega, by go_num, HN1, HB, hE⟩
        case measure => simp [intOf]; omega
    · have HR := hidden (rdR_none (l := l) (by have h3 := HN.out; rw [List.take_of_length_le (by omega)] at h3; exact h3))
      go_wp2_with (first | ((first | with_reducible refine wp_region_qe (by kernel_rfl) (by kernel_rfl) ?_ | with_reducible refine wp_region_q (by kernel_rfl) (by kernel_rfl) ?_); (repeat' (first | go_big_quiet_step (fail) | (refine wpQuiet_split rfl rfl rfl rfl (fun hsp => ?_) (fun hsp => ?_); ((fail_if_success (cases hsp; done)); simp only [hsp]; (try first | have hsq : _ < _ := of_decide_eq_true hsp | have hsq : _ ≤ _ := of_decide_eq_true hsp | have hsq : ¬ _ < _ := of_decide_eq_false hsp | have hsq : ¬ _ ≤ _ := of_decide_eq_false hsp)); rotate_left; ((fail_if_success (cases hsp; done)); simp only [hsp]; (try first | have hsq : _ < _ := of_decide_eq_true hsp | have hsq : _ ≤ _ := of_decide_eq_true hsp | have hsq : ¬ _ < _ := of_decide_eq_false hsp | have hsq : ¬ _ ≤ _ := of_decide_eq_false hsp))))); (all_goals (refine wpQuiet_nil ?_; intro x))) | ((first | with_reducible refine wp_region_seqe (by kernel_rfl) (by kernel_rfl) ?_ | with_reducible refine wp_region_seqw (by kernel_rfl) (by kernel_rfl) ?_); (repeat' (first | ((with_reducible refine wpSeq_pure (by with_unfolding_all rfl) (fun Kq hKq => ?_)); (repeat' (first | go_big_quiet_step (fail) | (refine wpQuiet_split rfl rfl rfl rfl (fun hsp => ?_) (fun hsp => ?_); ((fail_if_success (cases hsp; done)); simp only [hsp]; (try first | have hsq : _ < _ := of_decide_eq_true hsp | have hsq : _ ≤ _ := of_decide_eq_true hsp | have hsq : ¬ _ < _ := of_decide_eq_false hsp | have hsq : ¬ _ ≤ _ := of_decide_eq_false hsp)); rotate_left; ((fail_if_success (cases hsp; done)); simp only [hsp]; (try first | have hsq : _ < _ := of_decide_eq_true hsp | have hsq : _ ≤ _ := of_decide_eq_true hsp | have hsq : ¬ _ < _ := of_decide_eq_false hsp | have hsq : ¬ _ ≤ _ := of_decide_eq_false hsp))))); (all_goals (refine wpQuiet_nil ?_; refine hKq _ ?_; clear hKq Kq))) | ((with_reducible refine wpSeq_act (by with_unfolding_all rfl) (fun Q' hQ' => ?_)); (go_wp2_with fail); (all_goals (refine hQ' _ _ rfl ?_ ?_; (change Ext _ _; exact (by repeat (first | with_reducible exact Ext.refl _ | with_reducible apply Ext.and | with_reducible apply Ext.drewx | with_reducible apply Ext.alloc | with_reducible apply Ext.ext | with_reducible apply Ext.drew | with_reducible refine Ext.setCell ?_ (by simp) _))); clear hQ' Q'))))); (all_goals ((with_reducible refine wpSeq_nil ?_)))))
      rw [HR.out]
      exact bodyPost_ret (v := .tuple #[.agg #[.int .i64 0, .int .i64 0], .bool false]) (by simp [results, Tryd.results16, go_sem, z0, z1]) rfl ⟨rfl, (by repeat (first | with_reducible assumption | with_reducible exact Ext.refl _ | with_reducible apply Ext.and | with_reducible apply Ext.drewx | with_reducible apply Ext.alloc | with_reducible apply Ext.ext | with_reducible apply Ext.drew | with_reducible refine Ext.setCell ?_ (by simp) _))⟩

end Go.Proofs.YtlehcnfmagjilaaDoor
