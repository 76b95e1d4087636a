/- Texts of routes: what the functions do. No condition. -/
import Derived.Test.YtjeofgalgfopdaaDoorTxt
import Derived.Test.YtjeofgalgfopdaaDoorFloat
namespace Go.Proofs.YtjeofgalgfopdaaDoor
open Go Go.RowKit

theorem rok_nat' {f b : Int} (h : rok f b = true) : ∃ n m : Nat, f = (n : Int) ∧ b = (m : Int) ∧ n < 1000 ∧ m < 10 := by
  obtain ⟨n, m, e, h1, h2⟩ := rok_nat (r := ⟨f, b⟩) h
  simp only [Rg.mk.injEq] at e
  exact ⟨n, m, e.1, e.2, h1, h2⟩
theorem rt_nats {r : Rt} (h : rtOk r = true) : rok r.r.f r.r.b = true ∧ pathB r.path = true ∧ (∃ n : Nat, r.like = n ∧ n < 10) ∧ marksB r.marks = true := by
  simp only [rtOk, Bool.and_eq_true] at h
  have h1 := inB_true.1 h.2.2.2.1
  obtain ⟨n, e⟩ := Int.eq_ofNat_of_zero_le h1.1
  exact ⟨h.1, h.2.1, ⟨n, e, by omega⟩, h.2.2.2.2⟩
theorem mark_dig {l : List Int} (h : marksB l = true) {k : Nat} {d : Int} (hd : l[k]? = some d) : ∃ n : Nat, d = n ∧ n < 10 := by
  have h1 : markB d = true := ascB_oks h (List.mem_of_getElem? hd)
  have := inB_true.1 h1
  obtain ⟨n, rfl⟩ := Int.eq_ofNat_of_zero_le (show 0 ≤ d by omega)
  exact ⟨n, rfl, by omega⟩
theorem mtx_len {l : List Int} (h : marksB l = true) {k : Nat} : (mtxS (l.take k)).length ≤ 9 := by
  have h1 : ∀ m : List Int, (∀ d ∈ m, ∃ n : Nat, d = n ∧ n < 10) → (mtxS m).length ≤ m.length := by
    intro m hm
    induction m with
    | nil => exact Nat.zero_le _
    | cons x m ih =>
      have h2 := ih (fun d hd => hm d (by simp [hd]))
      obtain ⟨n, rfl, hn⟩ := hm x (by simp)
      unfold mtxS at h2 ⊢
      rw [List.flatMap_cons, List.length_append, List.length_cons]
      have : (dig (n : Int)).length = 1 := by unfold dig; rw [Int.toNat_natCast, dec_lt hn]; rfl
      omega
  have h2 := h1 (l.take k) (fun d hd => by
    obtain ⟨i, hi, he⟩ := List.mem_iff_getElem.1 (List.mem_of_mem_take hd)
    exact mark_dig h (k := i) (List.getElem?_eq_some_iff.2 ⟨hi, he⟩))
  have h3 := marks_le h
  rw [List.length_take] at h2
  omega
theorem mtx_snoc {l : List Int} {k : Nat} {d : Int} (hd : l[k]? = some d) : mtxS (l.take (k + 1)) = mtxS (l.take k) ++ dig d := by
  rw [List.take_add_one, hd]; simp [mtxS, List.flatMap_append]
theorem ptB_len {l : List Int} (h : pathB l = true) : (ptB l).length ≤ 10 := by
  unfold ptB
  split
  · simp
  · have := ptx_len h (k := l.length)
    rwa [List.take_length] at this
theorem rtx_len {n m : Nat} (hn : n < 1000) (hm : m < 10) : (rtx ⟨n, m⟩).length ≤ 7 := by
  have h1 := dec_len n hn
  have h2 := dec_len m (by omega)
  unfold rtx dig
  rw [List.length_append, List.length_cons, Int.toNat_natCast, Int.toNat_natCast]
  omega

set_option maxRecDepth 20000 in
set_option maxHeartbeats 4000000 in
theorem sRouteText_any (r : Rt) (a1 : Option Addr) (n1 c1 : Nat) (a2 : Option Addr) (n2 c2 : Nat) (w : World) (h1 : SlRd w a1 n1 c1 r.path) (h2 : SlRd w a2 n2 c2 r.marks) :
    Calls Tryd.prog 34 #[.agg #[.int .i64 r.r.f, .int .i64 r.r.b, .slice a1 n1 c1, .int .i64 r.like, .slice a2 n2 c2]] w fun e w' => e = .returned (.string (routeText r)) ∧ Ext w w' := by
  have H1 := hidden h1
  have H2 := hidden h2
  cases k1 : rtOk r
  · rw [routeText_no k1]
    go_enter Tryd.func34, Tryd.ntmps34
    go_wp2_with (first | (first | (go_at_call 41; (with_reducible refine (sRouteOk_any r _ _ _ _ _ _ _ (H1.out.stays ((by repeat (first | with_reducible exact Ext.refl _ | with_reducible apply Ext.and | with_reducible apply Ext.drewx | with_reducible apply Ext.alloc | with_reducible apply Ext.ext | with_reducible apply Ext.drew | with_reducible refine Ext.setCell ?_ (by simp) _)) : Ext _ _).below) (H2.out.stays ((by repeat (first | with_reducible exact Ext.refl _ | with_reducible apply Ext.and | with_reducible apply Ext.drewx | with_reducible apply Ext.alloc | with_reducible apply Ext.ext | with_reducible apply Ext.drew | with_reducible refine Ext.setCell ?_ (by simp) _)) : Ext _ _).below)).mono ?_); rintro _ _ ⟨rfl, x, rfl⟩)) | ((first | with_reducible refine wp_region_qe (by kernel_rfl) (by kernel_rfl) ?_ | with_reducible refine wp_region_q (by kernel_rfl) (by kernel_rfl) ?_); (repeat' (first | go_big_quiet_step ((first | (go_at_call 41; first | with_reducible exact Calls.qb (by assumption) (sRouteOk_any r _ _ _ _ _ _ _ (H1.out.stays ((by repeat (first | with_reducible exact Ext.refl _ | with_reducible apply Ext.and | with_reducible apply Ext.drewx | with_reducible apply Ext.alloc | with_reducible apply Ext.ext | with_reducible apply Ext.drew | with_reducible refine Ext.setCell ?_ (by simp) _)) : Ext _ _).below) (H2.out.stays ((by repeat (first | with_reducible exact Ext.refl _ | with_reducible apply Ext.and | with_reducible apply Ext.drewx | with_reducible apply Ext.alloc | with_reducible apply Ext.ext | with_reducible apply Ext.drew | with_reducible refine Ext.setCell ?_ (by simp) _)) : Ext _ _).below)) | with_reducible exact Calls.q (sRouteOk_any r _ _ _ _ _ _ _ (H1.out.stays ((by repeat (first | with_reducible exact Ext.refl _ | with_reducible apply Ext.and | with_reducible apply Ext.drewx | with_reducible apply Ext.alloc | with_reducible apply Ext.ext | with_reducible apply Ext.drew | with_reducible refine Ext.setCell ?_ (by simp) _)) : Ext _ _).below) (H2.out.stays ((by repeat (first | with_reducible exact Ext.refl _ | with_reducible apply Ext.and | with_reducible apply Ext.drewx | with_reducible apply Ext.alloc | with_reducible apply Ext.ext | with_reducible apply Ext.drew | with_reducible refine Ext.setCell ?_ (by simp) _)) : Ext _ _).below))))) | (refine wpQuiet_split rfl rfl rfl rfl (fun hsp => ?_) (fun hsp => ?_); ((fail_if_success (cases hsp; done)); simp only [hsp]; (try first | have hsq : _ < _ := of_decide_eq_true hsp | have hsq : _ ≤ _ := of_decide_eq_true hsp | have hsq : ¬ _ < _ := of_decide_eq_false hsp | have hsq : ¬ _ ≤ _ := of_decide_eq_false hsp)); rotate_left; ((fail_if_success (cases hsp; done)); simp only [hsp]; (try first | have hsq : _ < _ := of_decide_eq_true hsp | have hsq : _ ≤ _ := of_decide_eq_true hsp | have hsq : ¬ _ < _ := of_decide_eq_false hsp | have hsq : ¬ _ ≤ _ := of_decide_eq_false hsp))))); (all_goals (refine wpQuiet_nil ?_; intro x))))
    go_ret
    exact ⟨rfl, (by repeat (first | with_reducible exact Ext.refl _ | with_reducible apply Ext.and | with_reducible apply Ext.drewx | with_reducible apply Ext.alloc | with_reducible apply Ext.ext | with_reducible apply Ext.drew | with_reducible refine Ext.setCell ?_ (by simp) _))⟩
  rw [routeText_yes k1]
  have HK := hidden k1
  obtain ⟨kr, kp, ⟨q, eq, hq⟩, km⟩ := rt_nats k1
  obtain ⟨⟨f, b⟩, path, like, marks⟩ := r
  obtain ⟨n, m, ef, eb, hn, hm⟩ := rok_nat' kr
  obtain rfl : f = n := ef
  obtain rfl : b = m := eb
  obtain rfl : like = q := eq
  have HKM := hidden km
  have HL := hidden (show marks.length = n2 from h2.1)
  have hlc : n2 ≤ c2 := h2.2.1
  have hcm := h2.2.2.1
  unfold maxLen at hcm
  have t1 := rtx_len hn hm
  have t2 : (ptB path).length ≤ 10 := ptB_len kp
  have t3 := dec_len q (by omega)
  have ht : pathText path = bs (ptB path) := pathText_yes kp
  have HT := hidden ht
  have s1 : ¬ 9223372036854775807 < (bs (rtx ⟨n, m⟩)).size + 1 := by rw [bs_size]; omega
  have s2 : ¬ 9223372036854775807 < (bs (rtx ⟨n, m⟩)).size + 1 + (bs (ptB path)).size := by rw [bs_size, bs_size]; omega
  have s3 : ¬ 9223372036854775807 < (bs (rtx ⟨n, m⟩)).size + 1 + (bs (ptB path)).size + 1 := by rw [bs_size, bs_size]; omega
  have s4 : ¬ 9223372036854775807 < (bs (rtx ⟨n, m⟩)).size + 1 + (bs (ptB path)).size + 1 + (bs (Lib.decDigits q)).size := by rw [bs_size, bs_size, bs_size]; omega
  have s5 : ¬ 9223372036854775807 < (bs (rtx ⟨n, m⟩)).size + 1 + (bs (ptB path)).size + 1 + (bs (Lib.decDigits q)).size + 2 := by rw [bs_size, bs_size, bs_size]; omega
  have HPL := hidden (show (rtx ⟨n, m⟩ ++ [32] ++ ptB path ++ [32] ++ dig q ++ [32, 109]).length ≤ 30 by
    simp only [List.length_append, List.length_cons, List.length_nil]
    have : (dig (q : Int)).length ≤ 3 := t3
    omega)
  clear ht t1 t2 t3
  have hPT : ∀ W, Ext w W → Calls Tryd.prog 30 #[.slice a1 n1 c1] W fun e w' => e = .returned (.string (bs (ptB path))) ∧ Ext W w' := fun W hW => by
    rw [← HT.out]
    exact sPathText_any _ _ _ path W (H1.out.stays hW.below)
  have HPT := hidden hPT
  clear hPT
  go_enter Tryd.func34, Tryd.ntmps34
  go_upto_region 5 with (first | (first | (go_at_call 41; (with_reducible refine (sRouteOk_any ⟨⟨n, m⟩, path, q, marks⟩ _ _ _ _ _ _ _ (H1.out.stays ((by repeat (first | with_reducible exact Ext.refl _ | with_reducible apply Ext.and | with_reducible apply Ext.drewx | with_reducible apply Ext.alloc | with_reducible apply Ext.ext | with_reducible apply Ext.drew | with_reducible refine Ext.setCell ?_ (by simp) _)) : Ext _ _).below) (H2.out.stays ((by repeat (first | with_reducible exact Ext.refl _ | with_reducible apply Ext.and | with_reducible apply Ext.drewx | with_reducible apply Ext.alloc | with_reducible apply Ext.ext | with_reducible apply Ext.drew | with_reducible refine Ext.setCell ?_ (by simp) _)) : Ext _ _).below)).mono ?_); rintro _ _ ⟨rfl, x, rfl⟩) | (go_at_call 58; (with_reducible refine (l1Text_any n m hn hm _).mono ?_); rintro _ _ ⟨rfl, x, rfl⟩) | (go_at_call 30; (with_reducible refine (HPT.out _ (by repeat (first | with_reducible exact Ext.refl _ | with_reducible apply Ext.and | with_reducible apply Ext.drewx | with_reducible apply Ext.alloc | with_reducible apply Ext.ext | with_reducible apply Ext.drew | with_reducible refine Ext.setCell ?_ (by simp) _))).mono ?_); rintro _ _ ⟨rfl, x, rfl⟩) | (go_at_call 62; (with_reducible refine (l6Dec_any q (by omega) _).mono ?_); rintro _ _ ⟨rfl, x, rfl⟩)) | ((first | with_reducible refine wp_region_qe (by kernel_rfl) (by kernel_rfl) ?_ | with_reducible refine wp_region_q (by kernel_rfl) (by kernel_rfl) ?_); (repeat' (first | go_big_quiet_step ((first | (go_at_call 41; first | with_reducible exact Calls.qb (by assumption) (sRouteOk_any ⟨⟨n, m⟩, path, q, marks⟩ _ _ _ _ _ _ _ (H1.out.stays ((by repeat (first | with_reducible exact Ext.refl _ | with_reducible apply Ext.and | with_reducible apply Ext.drewx | with_reducible apply Ext.alloc | with_reducible apply Ext.ext | with_reducible apply Ext.drew | with_reducible refine Ext.setCell ?_ (by simp) _)) : Ext _ _).below) (H2.out.stays ((by repeat (first | with_reducible exact Ext.refl _ | with_reducible apply Ext.and | with_reducible apply Ext.drewx | with_reducible apply Ext.alloc | with_reducible apply Ext.ext | with_reducible apply Ext.drew | with_reducible refine Ext.setCell ?_ (by simp) _)) : Ext _ _).below)) | with_reducible exact Calls.q (sRouteOk_any ⟨⟨n, m⟩, path, q, marks⟩ _ _ _ _ _ _ _ (H1.out.stays ((by repeat (first | with_reducible exact Ext.refl _ | with_reducible apply Ext.and | with_reducible apply Ext.drewx | with_reducible apply Ext.alloc | with_reducible apply Ext.ext | with_reducible apply Ext.drew | with_reducible refine Ext.setCell ?_ (by simp) _)) : Ext _ _).below) (H2.out.stays ((by repeat (first | with_reducible exact Ext.refl _ | with_reducible apply Ext.and | with_reducible apply Ext.drewx | with_reducible apply Ext.alloc | with_reducible apply Ext.ext | with_reducible apply Ext.drew | with_reducible refine Ext.setCell ?_ (by simp) _)) : Ext _ _).below))) | (go_at_call 58; first | with_reducible exact Calls.qb (by assumption) (l1Text_any n m hn hm _) | with_reducible exact Calls.q (l1Text_any n m hn hm _)) | (go_at_call 30; first | with_reducible exact Calls.qb (by assumption) (HPT.out _ (by repeat (first | with_reducible exact Ext.refl _ | with_reducible apply Ext.and | with_reducible apply Ext.drewx | with_reducible apply Ext.alloc | with_reducible apply Ext.ext | with_reducible apply Ext.drew | with_reducible refine Ext.setCell ?_ (by simp) _))) | with_reducible exact Calls.q (HPT.out _ (by repeat (first | with_reducible exact Ext.refl _ | with_reducible apply Ext.and | with_reducible apply Ext.drewx | with_reducible apply Ext.alloc | with_reducible apply Ext.ext | with_reducible apply Ext.drew | with_reducible refine Ext.setCell ?_ (by simp) _)))) | (go_at_call 62; first | with_reducible exact Calls.qb (by assumption) (l6Dec_any q (by omega) _) | with_reducible exact Calls.q (l6Dec_any q (by omega) _)))) | (refine wpQuiet_split rfl rfl rfl rfl (fun hsp => ?_) (fun hsp => ?_); ((fail_if_success (cases hsp; done)); simp only [hsp]; (try first | have hsq : _ < _ := of_decide_eq_true hsp | have hsq : _ ≤ _ := of_decide_eq_true hsp | have hsq : ¬ _ < _ := of_decide_eq_false hsp | have hsq : ¬ _ ≤ _ := of_decide_eq_false hsp)); rotate_left; ((fail_if_success (cases hsp; done)); simp only [hsp]; (try first | have hsq : _ < _ := of_decide_eq_true hsp | have hsq : _ ≤ _ := of_decide_eq_true hsp | have hsq : ¬ _ < _ := of_decide_eq_false hsp | have hsq : ¬ _ ≤ _ := of_decide_eq_false hsp))))); (all_goals (refine wpQuiet_nil ?_; intro x))) | ((first | with_reducible refine wp_region_seqSe (by kernel_rfl) (by kernel_rfl) ?_ | with_reducible refine wp_region_seqSw (by kernel_rfl) (by kernel_rfl) ?_); (repeat' (first | ((with_reducible refine wpSeqS_pure (by with_unfolding_all rfl) (fun Kq hKq => ?_)); (repeat' (first | go_big_quiet_step (fail) | (refine wpQuiet_split rfl rfl rfl rfl (fun hsp => ?_) (fun hsp => ?_); ((fail_if_success (cases hsp; done)); simp only [hsp]; (try first | have hsq : _ < _ := of_decide_eq_true hsp | have hsq : _ ≤ _ := of_decide_eq_true hsp | have hsq : ¬ _ < _ := of_decide_eq_false hsp | have hsq : ¬ _ ≤ _ := of_decide_eq_false hsp)); rotate_left; ((fail_if_success (cases hsp; done)); simp only [hsp]; (try first | have hsq : _ < _ := of_decide_eq_true hsp | have hsq : _ ≤ _ := of_decide_eq_true hsp | have hsq : ¬ _ < _ := of_decide_eq_false hsp | have hsq : ¬ _ ≤ _ := of_decide_eq_false hsp))))); (all_goals (refine wpQuiet_nil ?_; refine hKq _ ?_; clear hKq Kq))) | ((with_reducible refine wpSeqS_load (by with_unfolding_all rfl) (fun Kq hKq => ?_)); (repeat' (first | go_big_quiet_step (fail) | (refine wpQuiet_split rfl rfl rfl rfl (fun hsp => ?_) (fun hsp => ?_); ((fail_if_success (cases hsp; done)); simp only [hsp]; (try first | have hsq : _ < _ := of_decide_eq_true hsp | have hsq : _ ≤ _ := of_decide_eq_true hsp | have hsq : ¬ _ < _ := of_decide_eq_false hsp | have hsq : ¬ _ ≤ _ := of_decide_eq_false hsp)); rotate_left; ((fail_if_success (cases hsp; done)); simp only [hsp]; (try first | have hsq : _ < _ := of_decide_eq_true hsp | have hsq : _ ≤ _ := of_decide_eq_true hsp | have hsq : ¬ _ < _ := of_decide_eq_false hsp | have hsq : ¬ _ ≤ _ := of_decide_eq_false hsp))))); (all_goals (refine wpQuiet_nil ?_; refine hKq _ ?_; clear hKq Kq))) | ((with_reducible refine wpSeqS_act (by with_unfolding_all rfl) (fun Q' hQ' => ?_)); (go_wp2_with (first | (go_at_call 41; (with_reducible refine (sRouteOk_any ⟨⟨n, m⟩, path, q, marks⟩ _ _ _ _ _ _ _ (H1.out.stays ((by repeat (first | with_reducible exact Ext.refl _ | with_reducible apply Ext.and | with_reducible apply Ext.drewx | with_reducible apply Ext.alloc | with_reducible apply Ext.ext | with_reducible apply Ext.drew | with_reducible refine Ext.setCell ?_ (by simp) _)) : Ext _ _).below) (H2.out.stays ((by repeat (first | with_reducible exact Ext.refl _ | with_reducible apply Ext.and | with_reducible apply Ext.drewx | with_reducible apply Ext.alloc | with_reducible apply Ext.ext | with_reducible apply Ext.drew | with_reducible refine Ext.setCell ?_ (by simp) _)) : Ext _ _).below)).mono ?_); rintro _ _ ⟨rfl, x, rfl⟩) | (go_at_call 58; (with_reducible refine (l1Text_any n m hn hm _).mono ?_); rintro _ _ ⟨rfl, x, rfl⟩) | (go_at_call 30; (with_reducible refine (HPT.out _ (by repeat (first | with_reducible exact Ext.refl _ | with_reducible apply Ext.and | with_reducible apply Ext.drewx | with_reducible apply Ext.alloc | with_reducible apply Ext.ext | with_reducible apply Ext.drew | with_reducible refine Ext.setCell ?_ (by simp) _))).mono ?_); rintro _ _ ⟨rfl, x, rfl⟩) | (go_at_call 62; (with_reducible refine (l6Dec_any q (by omega) _).mono ?_); rintro _ _ ⟨rfl, x, rfl⟩))); (all_goals (refine hQ' _ _ rfl ?_ ?_; (first | (focus (intro hbk; simp [brkB] at hbk; done)) | (focus (intro _; change Ext _ _; exact (by repeat (first | with_reducible assumption | with_reducible exact Ext.refl _ | with_reducible apply Ext.and | with_reducible apply Ext.drewx | with_reducible apply Ext.alloc | with_reducible apply Ext.ext | with_reducible apply Ext.drew | with_reducible refine Ext.setCell ?_ (by simp) _))))); clear hQ' Q'))))); (all_goals ((with_reducible refine wpSeqS_nil ?_)))))
  obtain ⟨PRE, hPRE⟩ : ∃ x, x = rtx ⟨n, m⟩ ++ [32] ++ ptB path ++ [32] ++ dig q ++ [32, 109] := ⟨_, rfl⟩
  have HPL2 := hidden (show PRE.length ≤ 30 by rw [hPRE]; exact HPL.out)
  have HPRE := hidden hPRE
  clear hPRE
  refine wp_name (fun W hW => ?_)
  have hE0 : Ext w W := by rw [hW]; exact (by repeat (first | with_reducible exact Ext.refl _ | with_reducible apply Ext.and | with_reducible apply Ext.drewx | with_reducible apply Ext.alloc | with_reducible apply Ext.ext | with_reducible apply Ext.drew | with_reducible refine Ext.setCell ?_ (by simp) _))
  have BX := hidden (show Blk W w.heap.size 44 [.int .i64 n, .int .i64 m, .slice a1 n1 c1, .int .i64 q, .slice a2 n2 c2] by rw [hW]; exact (Blk.newAt w #[_, _, _, _, _] _ (by simp)).extends (by repeat (first | with_reducible exact Ext.refl _ | with_reducible apply Ext.and | with_reducible apply Ext.drewx | with_reducible apply Ext.alloc | with_reducible apply Ext.ext | with_reducible apply Ext.drew | with_reducible refine Ext.setCell ?_ (by simp) _)))
  clear hW
  go_loopw [3, 4] (fun v i wr => ∃ k : Nat, k ≤ n2 ∧ i = .int .i64 k ∧ v = .string (bs (PRE ++ mtxS (marks.take k))) ∧ Ext W wr) (fun _ i _ => n2 - (intOf i).toNat)
  case atStart => exact ⟨0, Nat.zero_le _, rfl, congrArg Value.string (by rw [HPRE.out]; simp only [bs_one, bs_two, bs_add]; simp [mtxS, dig]), Ext.refl _⟩
  case round =>
    obtain ⟨k, hk, rfl, rfl, hE1⟩ := hrel
    have hE := hE0.trans hE1
    have BY := hidden (BX.out.extends hE1)
    have x4 := BY.out.cell (j := 4) rfl
    have xl := BY.out.lt
    by_cases hlt : k < n2
    · have h2' : SlRd w a2 n2 c2 marks := H2.out
      obtain ⟨d, dhd, db, doff, dys, rfl, dhys, dhcell, dhrd⟩ := h2'.at hE hlt
      obtain ⟨rfl, dg0⟩ := dhrd
      have dc0 : wr.cell? ⟨db, doff + k, none⟩ = some (.int .i64 d) := by have := dhcell 0 _ rfl; simpa [Lay.n] using this
      have dlb := cell_lt dc0
      have dHD := hidden dhd
      clear dhcell dhys dhd
      obtain ⟨p, rfl, hp⟩ := mark_dig HKM.out dHD.out
      have hm9 := mtx_len HKM.out (k := k)
      have ln := dec_len p (by omega)
      have hpl := HPL2.out
      have s6 : ¬ 9223372036854775807 < (bs (PRE ++ mtxS (marks.take k))).size + (bs (Lib.decDigits p)).size := by rw [bs_size, bs_size, List.length_append]; omega
      clear hm9 ln hpl
      have HM := hidden (mtx_snoc dHD.out)
      go_wp2_with (first | (first | (go_at_call 62; (with_reducible refine (l6Dec_any p (by omega) _).mono ?_); rintro _ _ ⟨rfl, x, rfl⟩)) | ((first | with_reducible refine wp_region_qe (by kernel_rfl) (by kernel_rfl) ?_ | with_reducible refine wp_region_q (by kernel_rfl) (by kernel_rfl) ?_); (repeat' (first | go_big_quiet_step ((first | (go_at_call 62; first | with_reducible exact Calls.qb (by assumption) (l6Dec_any p (by omega) _) | with_reducible exact Calls.q (l6Dec_any p (by omega) _)))) | (refine wpQuiet_split rfl rfl rfl rfl (fun hsp => ?_) (fun hsp => ?_); ((fail_if_success (cases hsp; done)); simp only [hsp]; (try first | have hsq : _ < _ := of_decide_eq_true hsp | have hsq : _ ≤ _ := of_decide_eq_true hsp | have hsq : ¬ _ < _ := of_decide_eq_false hsp | have hsq : ¬ _ ≤ _ := of_decide_eq_false hsp)); rotate_left; ((fail_if_success (cases hsp; done)); simp only [hsp]; (try first | have hsq : _ < _ := of_decide_eq_true hsp | have hsq : _ ≤ _ := of_decide_eq_true hsp | have hsq : ¬ _ < _ := of_decide_eq_false hsp | have hsq : ¬ _ ≤ _ := of_decide_eq_false hsp))))); (all_goals (refine wpQuiet_nil ?_; intro x))))
      go_roundw
      case rel => exact ⟨k + 1, by omega, by go_num, congrArg Value.string (by rw [HM.out, bs_add, List.append_assoc]; rfl), hE1.trans (by repeat (first | with_reducible exact Ext.refl _ | with_reducible apply Ext.and | with_reducible apply Ext.drewx | with_reducible apply Ext.alloc | with_reducible apply Ext.ext | with_reducible apply Ext.drew | with_reducible refine Ext.setCell ?_ (by simp) _))⟩
      case measure => simp [intOf]; omega
    · obtain rfl : n2 = k := by omega
      have hall : marks.take n2 = marks := List.take_of_length_le (Nat.le_of_eq HL.out)
      rw [hall]
      go_wp2_with (first | ((first | with_reducible refine wp_region_qe (by kernel_rfl) (by kernel_rfl) ?_ | with_reducible refine wp_region_q (by kernel_rfl) (by kernel_rfl) ?_); (repeat' (first | go_big_quiet_step (fail) | (refine wpQuiet_split rfl rfl rfl rfl (fun hsp => ?_) (fun hsp => ?_); ((fail_if_success (cases hsp; done)); simp only [hsp]; (try first | have hsq : _ < _ := of_decide_eq_true hsp | have hsq : _ ≤ _ := of_decide_eq_true hsp | have hsq : ¬ _ < _ := of_decide_eq_false hsp | have hsq : ¬ _ ≤ _ := of_decide_eq_false hsp)); rotate_left; ((fail_if_success (cases hsp; done)); simp only [hsp]; (try first | have hsq : _ < _ := of_decide_eq_true hsp | have hsq : _ ≤ _ := of_decide_eq_true hsp | have hsq : ¬ _ < _ := of_decide_eq_false hsp | have hsq : ¬ _ ≤ _ := of_decide_eq_false hsp))))); (all_goals (refine wpQuiet_nil ?_; intro x))))
      go_ret
      exact ⟨by rw [HPRE.out]; rfl, (by first | exact hE | exact hE.ext _ | exact hE.trans (by repeat (first | with_reducible exact Ext.refl _ | with_reducible apply Ext.and | with_reducible apply Ext.drewx | with_reducible apply Ext.alloc | with_reducible apply Ext.ext | with_reducible apply Ext.drew | with_reducible refine Ext.setCell ?_ (by simp) _)))⟩

theorem join4 (x0 x1 x2 x3 : List UInt8) (s : UInt8) (w : World) (B : Nat) (t : TypeId) (hB0 : Blk w B t (#[.string (bs x0), .string (bs x1), .string (bs x2), .string (bs x3)] : Array Value).toList) (hl : x0.length + x1.length + x2.length + x3.length ≤ 1000000) :
    Calls Tryd.prog 64 #[.slice (some ⟨B, 0, none⟩) 4 4, .string ⟨#[s]⟩] w fun e w' => e = .returned (.string (bs (x0 ++ [s] ++ x1 ++ [s] ++ x2 ++ [s] ++ x3))) ∧ Ext w w' := by
  have hB : Blk w B t [.string (bs x0), .string (bs x1), .string (bs x2), .string (bs x3)] := hB0
  have hc : ∀ (j : Nat) (x : ByteArray), [bs x0, bs x1, bs x2, bs x3][j]? = some x → w.cell? ⟨B, 0 + j, none⟩ = some (.string x) := fun j x hx => by
    rw [Nat.zero_add]
    match j, hx with
    | 0, hx => simp at hx; rw [← hx]; exact hB.cell (j := 0) rfl
    | 1, hx => simp at hx; rw [← hx]; exact hB.cell (j := 1) rfl
    | 2, hx => simp at hx; rw [← hx]; exact hB.cell (j := 2) rfl
    | 3, hx => simp at hx; rw [← hx]; exact hB.cell (j := 3) rfl
    | j + 4, hx => simp at hx
  have hj : Lib.join ([bs x0, bs x1, bs x2, bs x3].map (·.data.toList)) (⟨#[s]⟩ : ByteArray).data.toList = x0 ++ [s] ++ x1 ++ [s] ++ x2 ++ [s] ++ x3 := by
    rw [List.map_cons, Lib.join_cons]
    simp [Lib.joinTail, bs]
  have h := Tryd.strings_Join B 0 4 [bs x0, bs x1, bs x2, bs x3] ⟨#[s]⟩ w hc hB.lt (by simp) (Nat.le_refl _) (by rw [hj]; simp only [List.length_append, List.length_cons, List.length_nil]; omega)
  rw [hj] at h
  exact h.mono fun _ _ ⟨g1, g2⟩ => ⟨g1, Ext.of g2⟩

set_option maxRecDepth 20000 in
set_option maxHeartbeats 4000000 in
theorem iRouteText_any (ea : Addr) (r : Rt) (a1 : Option Addr) (n1 c1 : Nat) (a2 : Option Addr) (n2 c2 : Nat) (w : World) (h1 : SlRd w a1 n1 c1 r.path) (h2 : SlRd w a2 n2 c2 r.marks) (hp : EP w ea) (tb : TB w) :
    Calls Tryd.prog 35 #[.agg #[.int .i64 r.r.f, .int .i64 r.r.b, .slice a1 n1 c1, .int .i64 r.like, .slice a2 n2 c2]] w fun e w' => e = .returned (.string (routeText r)) ∧ Ext w w' := by
  have H1 := hidden h1
  have H2 := hidden h2
  cases k1 : rtOk r
  · rw [routeText_no k1]
    go_enter Tryd.func35, Tryd.ntmps35
    go_wp2_with (first | (first | (go_at_call 43; (with_reducible refine (iRouteOk_any ea r _ _ _ _ _ _ _ (H1.out.stays ((by repeat (first | with_reducible exact Ext.refl _ | with_reducible apply Ext.and | with_reducible apply Ext.drewx | with_reducible apply Ext.alloc | with_reducible apply Ext.ext | with_reducible apply Ext.drew | with_reducible refine Ext.setCell ?_ (by simp) _)) : Ext _ _).below) (H2.out.stays ((by repeat (first | with_reducible exact Ext.refl _ | with_reducible apply Ext.and | with_reducible apply Ext.drewx | with_reducible apply Ext.alloc | with_reducible apply Ext.ext | with_reducible apply Ext.drew | with_reducible refine Ext.setCell ?_ (by simp) _)) : Ext _ _).below) (hp.later (by repeat (first | with_reducible exact Ext.refl _ | with_reducible apply Ext.and | with_reducible apply Ext.drewx | with_reducible apply Ext.alloc | with_reducible apply Ext.ext | with_reducible apply Ext.drew | with_reducible refine Ext.setCell ?_ (by simp) _)))).mono ?_); rintro _ _ ⟨rfl, x, rfl⟩)) | ((first | with_reducible refine wp_region_qe (by kernel_rfl) (by kernel_rfl) ?_ | with_reducible refine wp_region_q (by kernel_rfl) (by kernel_rfl) ?_); (repeat' (first | go_big_quiet_step ((first | (go_at_call 43; first | with_reducible exact Calls.qb (by assumption) (iRouteOk_any ea r _ _ _ _ _ _ _ (H1.out.stays ((by repeat (first | with_reducible exact Ext.refl _ | with_reducible apply Ext.and | with_reducible apply Ext.drewx | with_reducible apply Ext.alloc | with_reducible apply Ext.ext | with_reducible apply Ext.drew | with_reducible refine Ext.setCell ?_ (by simp) _)) : Ext _ _).below) (H2.out.stays ((by repeat (first | with_reducible exact Ext.refl _ | with_reducible apply Ext.and | with_reducible apply Ext.drewx | with_reducible apply Ext.alloc | with_reducible apply Ext.ext | with_reducible apply Ext.drew | with_reducible refine Ext.setCell ?_ (by simp) _)) : Ext _ _).below) (hp.later (by repeat (first | with_reducible exact Ext.refl _ | with_reducible apply Ext.and | with_reducible apply Ext.drewx | with_reducible apply Ext.alloc | with_reducible apply Ext.ext | with_reducible apply Ext.drew | with_reducible refine Ext.setCell ?_ (by simp) _)))) | with_reducible exact Calls.q (iRouteOk_any ea r _ _ _ _ _ _ _ (H1.out.stays ((by repeat (first | with_reducible exact Ext.refl _ | with_reducible apply Ext.and | with_reducible apply Ext.drewx | with_reducible apply Ext.alloc | with_reducible apply Ext.ext | with_reducible apply Ext.drew | with_reducible refine Ext.setCell ?_ (by simp) _)) : Ext _ _).below) (H2.out.stays ((by repeat (first | with_reducible exact Ext.refl _ | with_reducible apply Ext.and | with_reducible apply Ext.drewx | with_reducible apply Ext.alloc | with_reducible apply Ext.ext | with_reducible apply Ext.drew | with_reducible refine Ext.setCell ?_ (by simp) _)) : Ext _ _).below) (hp.later (by repeat (first | with_reducible exact Ext.refl _ | with_reducible apply Ext.and | with_reducible apply Ext.drewx | with_reducible apply Ext.alloc | with_reducible apply Ext.ext | with_reducible apply Ext.drew | with_reducible refine Ext.setCell ?_ (by simp) _))))))) | (refine wpQuiet_split rfl rfl rfl rfl (fun hsp => ?_) (fun hsp => ?_); ((fail_if_success (cases hsp; done)); simp only [hsp]; (try first | have hsq : _ < _ := of_decide_eq_true hsp | have hsq : _ ≤ _ := of_decide_eq_true hsp | have hsq : ¬ _ < _ := of_decide_eq_false hsp | have hsq : ¬ _ ≤ _ := of_decide_eq_false hsp)); rotate_left; ((fail_if_success (cases hsp; done)); simp only [hsp]; (try first | have hsq : _ < _ := of_decide_eq_true hsp | have hsq : _ ≤ _ := of_decide_eq_true hsp | have hsq : ¬ _ < _ := of_decide_eq_false hsp | have hsq : ¬ _ ≤ _ := of_decide_eq_false hsp))))); (all_goals (refine wpQuiet_nil ?_; intro x))))
    go_ret
    exact ⟨rfl, (by repeat (first | with_reducible exact Ext.refl _ | with_reducible apply Ext.and | with_reducible apply Ext.drewx | with_reducible apply Ext.alloc | with_reducible apply Ext.ext | with_reducible apply Ext.drew | with_reducible refine Ext.setCell ?_ (by simp) _))⟩
  rw [routeText_yes k1]
  have HK := hidden k1
  obtain ⟨kr, kp, ⟨q, eq, hq⟩, km⟩ := rt_nats k1
  obtain ⟨⟨f, b⟩, path, like, marks⟩ := r
  have HKR := hidden (rangeText_yes (r := ⟨f, b⟩) kr)
  obtain ⟨n, m, ef, eb, hn, hm⟩ := rok_nat' kr
  obtain rfl : f = n := ef
  obtain rfl : b = m := eb
  obtain rfl : like = q := eq
  have HKM := hidden km
  have HL := hidden (show marks.length = n2 from h2.1)
  have hlc : n2 ≤ c2 := h2.2.1
  have hcm := h2.2.2.1
  unfold maxLen at hcm
  have hPT : ∀ W, Ext w W → Calls Tryd.prog 32 #[.slice a1 n1 c1] W fun e w' => e = .returned (.string (bs (ptB path))) ∧ Ext W w' := fun W hW => by
    rw [← pathText_yes (l := path) kp]
    exact iPathText_any ea _ _ _ path W (H1.out.stays hW.below) (hp.later hW)
  have HPT := hidden hPT
  have hRT : ∀ W, Ext w W → Calls Tryd.prog 29 #[.agg #[.int .i64 n, .int .i64 m]] W fun e w' => e = .returned (.string (bs (rtx ⟨n, m⟩))) ∧ Ext W w' := fun W hW => by
    rw [← HKR.out]
    exact iRangeText_any ⟨n, m⟩ W (tb.later hW)
  have HRT := hidden hRT
  clear hPT hRT
  have HLEN := hidden (show (rtx ⟨n, m⟩).length ≤ 7 ∧ (ptB path).length ≤ 10 ∧ (Lib.decDigits q).length ≤ 3 from ⟨rtx_len hn hm, ptB_len kp, dec_len q (by omega)⟩)
  go_enter Tryd.func35, Tryd.ntmps35
  go_upto_region 5 with (first | (first | (go_at_call 43; (with_reducible refine (iRouteOk_any ea ⟨⟨n, m⟩, path, q, marks⟩ _ _ _ _ _ _ _ (H1.out.stays ((by repeat (first | with_reducible exact Ext.refl _ | with_reducible apply Ext.and | with_reducible apply Ext.drewx | with_reducible apply Ext.alloc | with_reducible apply Ext.ext | with_reducible apply Ext.drew | with_reducible refine Ext.setCell ?_ (by simp) _)) : Ext _ _).below) (H2.out.stays ((by repeat (first | with_reducible exact Ext.refl _ | with_reducible apply Ext.and | with_reducible apply Ext.drewx | with_reducible apply Ext.alloc | with_reducible apply Ext.ext | with_reducible apply Ext.drew | with_reducible refine Ext.setCell ?_ (by simp) _)) : Ext _ _).below) (hp.later (by repeat (first | with_reducible exact Ext.refl _ | with_reducible apply Ext.and | with_reducible apply Ext.drewx | with_reducible apply Ext.alloc | with_reducible apply Ext.ext | with_reducible apply Ext.drew | with_reducible refine Ext.setCell ?_ (by simp) _)))).mono ?_); rintro _ _ ⟨rfl, x, rfl⟩)) | ((first | with_reducible refine wp_region_qe (by kernel_rfl) (by kernel_rfl) ?_ | with_reducible refine wp_region_q (by kernel_rfl) (by kernel_rfl) ?_); (repeat' (first | go_big_quiet_step ((first | (go_at_call 43; first | with_reducible exact Calls.qb (by assumption) (iRouteOk_any ea ⟨⟨n, m⟩, path, q, marks⟩ _ _ _ _ _ _ _ (H1.out.stays ((by repeat (first | with_reducible exact Ext.refl _ | with_reducible apply Ext.and | with_reducible apply Ext.drewx | with_reducible apply Ext.alloc | with_reducible apply Ext.ext | with_reducible apply Ext.drew | with_reducible refine Ext.setCell ?_ (by simp) _)) : Ext _ _).below) (H2.out.stays ((by repeat (first | with_reducible exact Ext.refl _ | with_reducible apply Ext.and | with_reducible apply Ext.drewx | with_reducible apply Ext.alloc | with_reducible apply Ext.ext | with_reducible apply Ext.drew | with_reducible refine Ext.setCell ?_ (by simp) _)) : Ext _ _).below) (hp.later (by repeat (first | with_reducible exact Ext.refl _ | with_reducible apply Ext.and | with_reducible apply Ext.drewx | with_reducible apply Ext.alloc | with_reducible apply Ext.ext | with_reducible apply Ext.drew | with_reducible refine Ext.setCell ?_ (by simp) _)))) | with_reducible exact Calls.q (iRouteOk_any ea ⟨⟨n, m⟩, path, q, marks⟩ _ _ _ _ _ _ _ (H1.out.stays ((by repeat (first | with_reducible exact Ext.refl _ | with_reducible apply Ext.and | with_reducible apply Ext.drewx | with_reducible apply Ext.alloc | with_reducible apply Ext.ext | with_reducible apply Ext.drew | with_reducible refine Ext.setCell ?_ (by simp) _)) : Ext _ _).below) (H2.out.stays ((by repeat (first | with_reducible exact Ext.refl _ | with_reducible apply Ext.and | with_reducible apply Ext.drewx | with_reducible apply Ext.alloc | with_reducible apply Ext.ext | with_reducible apply Ext.drew | with_reducible refine Ext.setCell ?_ (by simp) _)) : Ext _ _).below) (hp.later (by repeat (first | with_reducible exact Ext.refl _ | with_reducible apply Ext.and | with_reducible apply Ext.drewx | with_reducible apply Ext.alloc | with_reducible apply Ext.ext | with_reducible apply Ext.drew | with_reducible refine Ext.setCell ?_ (by simp) _))))))) | (refine wpQuiet_split rfl rfl rfl rfl (fun hsp => ?_) (fun hsp => ?_); ((fail_if_success (cases hsp; done)); simp only [hsp]; (try first | have hsq : _ < _ := of_decide_eq_true hsp | have hsq : _ ≤ _ := of_decide_eq_true hsp | have hsq : ¬ _ < _ := of_decide_eq_false hsp | have hsq : ¬ _ ≤ _ := of_decide_eq_false hsp)); rotate_left; ((fail_if_success (cases hsp; done)); simp only [hsp]; (try first | have hsq : _ < _ := of_decide_eq_true hsp | have hsq : _ ≤ _ := of_decide_eq_true hsp | have hsq : ¬ _ < _ := of_decide_eq_false hsp | have hsq : ¬ _ ≤ _ := of_decide_eq_false hsp))))); (all_goals (refine wpQuiet_nil ?_; intro x))) | ((first | with_reducible refine wp_region_seqSe (by kernel_rfl) (by kernel_rfl) ?_ | with_reducible refine wp_region_seqSw (by kernel_rfl) (by kernel_rfl) ?_); (repeat' (first | ((with_reducible refine wpSeqS_pure (by with_unfolding_all rfl) (fun Kq hKq => ?_)); (repeat' (first | go_big_quiet_step (fail) | (refine wpQuiet_split rfl rfl rfl rfl (fun hsp => ?_) (fun hsp => ?_); ((fail_if_success (cases hsp; done)); simp only [hsp]; (try first | have hsq : _ < _ := of_decide_eq_true hsp | have hsq : _ ≤ _ := of_decide_eq_true hsp | have hsq : ¬ _ < _ := of_decide_eq_false hsp | have hsq : ¬ _ ≤ _ := of_decide_eq_false hsp)); rotate_left; ((fail_if_success (cases hsp; done)); simp only [hsp]; (try first | have hsq : _ < _ := of_decide_eq_true hsp | have hsq : _ ≤ _ := of_decide_eq_true hsp | have hsq : ¬ _ < _ := of_decide_eq_false hsp | have hsq : ¬ _ ≤ _ := of_decide_eq_false hsp))))); (all_goals (refine wpQuiet_nil ?_; refine hKq _ ?_; clear hKq Kq))) | ((with_reducible refine wpSeqS_load (by with_unfolding_all rfl) (fun Kq hKq => ?_)); (repeat' (first | go_big_quiet_step (fail) | (refine wpQuiet_split rfl rfl rfl rfl (fun hsp => ?_) (fun hsp => ?_); ((fail_if_success (cases hsp; done)); simp only [hsp]; (try first | have hsq : _ < _ := of_decide_eq_true hsp | have hsq : _ ≤ _ := of_decide_eq_true hsp | have hsq : ¬ _ < _ := of_decide_eq_false hsp | have hsq : ¬ _ ≤ _ := of_decide_eq_false hsp)); rotate_left; ((fail_if_success (cases hsp; done)); simp only [hsp]; (try first | have hsq : _ < _ := of_decide_eq_true hsp | have hsq : _ ≤ _ := of_decide_eq_true hsp | have hsq : ¬ _ < _ := of_decide_eq_false hsp | have hsq : ¬ _ ≤ _ := of_decide_eq_false hsp))))); (all_goals (refine wpQuiet_nil ?_; refine hKq _ ?_; clear hKq Kq))) | ((with_reducible refine wpSeqS_act (by with_unfolding_all rfl) (fun Q' hQ' => ?_)); (go_wp2_with (first | (go_at_call 43; (with_reducible refine (iRouteOk_any ea ⟨⟨n, m⟩, path, q, marks⟩ _ _ _ _ _ _ _ (H1.out.stays ((by repeat (first | with_reducible exact Ext.refl _ | with_reducible apply Ext.and | with_reducible apply Ext.drewx | with_reducible apply Ext.alloc | with_reducible apply Ext.ext | with_reducible apply Ext.drew | with_reducible refine Ext.setCell ?_ (by simp) _)) : Ext _ _).below) (H2.out.stays ((by repeat (first | with_reducible exact Ext.refl _ | with_reducible apply Ext.and | with_reducible apply Ext.drewx | with_reducible apply Ext.alloc | with_reducible apply Ext.ext | with_reducible apply Ext.drew | with_reducible refine Ext.setCell ?_ (by simp) _)) : Ext _ _).below) (hp.later (by repeat (first | with_reducible exact Ext.refl _ | with_reducible apply Ext.and | with_reducible apply Ext.drewx | with_reducible apply Ext.alloc | with_reducible apply Ext.ext | with_reducible apply Ext.drew | with_reducible refine Ext.setCell ?_ (by simp) _)))).mono ?_); rintro _ _ ⟨rfl, x, rfl⟩))); (all_goals (refine hQ' _ _ rfl ?_ ?_; (first | (focus (intro hbk; simp [brkB] at hbk; done)) | (focus (intro _; change Ext _ _; exact (by repeat (first | with_reducible assumption | with_reducible exact Ext.refl _ | with_reducible apply Ext.and | with_reducible apply Ext.drewx | with_reducible apply Ext.alloc | with_reducible apply Ext.ext | with_reducible apply Ext.drew | with_reducible refine Ext.setCell ?_ (by simp) _))))); clear hQ' Q'))))); (all_goals ((with_reducible refine wpSeqS_nil ?_)))))
  refine wp_name (fun W hW => ?_)
  have hE0 : Ext w W := by rw [hW]; exact (by repeat (first | with_reducible exact Ext.refl _ | with_reducible apply Ext.and | with_reducible apply Ext.drewx | with_reducible apply Ext.alloc | with_reducible apply Ext.ext | with_reducible apply Ext.drew | with_reducible refine Ext.setCell ?_ (by simp) _))
  have BX := hidden (show Blk W w.heap.size 44 [.int .i64 n, .int .i64 m, .slice a1 n1 c1, .int .i64 q, .slice a2 n2 c2] by rw [hW]; exact (Blk.newAt w #[_, _, _, _, _] _ (by simp)).extends (by repeat (first | with_reducible exact Ext.refl _ | with_reducible apply Ext.and | with_reducible apply Ext.drewx | with_reducible apply Ext.alloc | with_reducible apply Ext.ext | with_reducible apply Ext.drew | with_reducible refine Ext.setCell ?_ (by simp) _)))
  clear hW
  go_loopw [3, 12] (fun v i wr => ∃ k : Nat, k ≤ n2 ∧ i = .int .i64 k ∧ v = .string (bs (109 :: mtxS (marks.take k))) ∧ Ext W wr) (fun _ i _ => n2 - (intOf i).toNat)
  case atStart => exact ⟨0, Nat.zero_le _, rfl, congrArg Value.string (by simp [bs_one, mtxS]), Ext.refl _⟩
  case round =>
    obtain ⟨k, hk, rfl, rfl, hE1⟩ := hrel
    have hE := hE0.trans hE1
    have BY := hidden (BX.out.extends hE1)
    by_cases hlt : k < n2
    · have h2' : SlRd w a2 n2 c2 marks := H2.out
      obtain ⟨d, dhd, db, doff, dys, rfl, dhys, dhcell, dhrd⟩ := h2'.at hE hlt
      obtain ⟨rfl, dg0⟩ := dhrd
      have dc0 : wr.cell? ⟨db, doff + k, none⟩ = some (.int .i64 d) := by have := dhcell 0 _ rfl; simpa [Lay.n] using this
      have dlb := cell_lt dc0
      have dHD := hidden dhd
      clear dhcell dhys dhd
      obtain ⟨p, rfl, hp9⟩ := mark_dig HKM.out dHD.out
      have hm9 := mtx_len HKM.out (k := k)
      have ln := dec_len p (by omega)
      have s6 : ¬ 9223372036854775807 < (bs (109 :: mtxS (marks.take k))).size + (bs (Lib.decDigits p)).size := by rw [bs_size, bs_size, List.length_cons]; omega
      clear hm9 ln
      have HM := hidden (mtx_snoc dHD.out)
      go_wp2_with (first | (first | (go_at_call 60; (with_reducible refine (itoaS p (by omega) _).mono ?_); rintro _ _ ⟨rfl, x, rfl⟩)) | ((first | with_reducible refine wp_region_qe (by kernel_rfl) (by kernel_rfl) ?_ | with_reducible refine wp_region_q (by kernel_rfl) (by kernel_rfl) ?_); (repeat' (first | go_big_quiet_step ((first | (go_at_call 60; first | with_reducible exact Calls.qb (by assumption) (itoaS p (by omega) _) | with_reducible exact Calls.q (itoaS p (by omega) _)))) | (refine wpQuiet_split rfl rfl rfl rfl (fun hsp => ?_) (fun hsp => ?_); ((fail_if_success (cases hsp; done)); simp only [hsp]; (try first | have hsq : _ < _ := of_decide_eq_true hsp | have hsq : _ ≤ _ := of_decide_eq_true hsp | have hsq : ¬ _ < _ := of_decide_eq_false hsp | have hsq : ¬ _ ≤ _ := of_decide_eq_false hsp)); rotate_left; ((fail_if_success (cases hsp; done)); simp only [hsp]; (try first | have hsq : _ < _ := of_decide_eq_true hsp | have hsq : _ ≤ _ := of_decide_eq_true hsp | have hsq : ¬ _ < _ := of_decide_eq_false hsp | have hsq : ¬ _ ≤ _ := of_decide_eq_false hsp))))); (all_goals (refine wpQuiet_nil ?_; intro x))))
      go_roundw
      case rel => exact ⟨k + 1, by omega, by go_num, congrArg Value.string (by rw [HM.out, bs_add]; rfl), hE1.trans (by repeat (first | with_reducible exact Ext.refl _ | with_reducible apply Ext.and | with_reducible apply Ext.drewx | with_reducible apply Ext.alloc | with_reducible apply Ext.ext | with_reducible apply Ext.drew | with_reducible refine Ext.setCell ?_ (by simp) _))⟩
      case measure => simp [intOf]; omega
    · obtain rfl : n2 = k := by omega
      have hall : marks.take n2 = marks := List.take_of_length_le (Nat.le_of_eq HL.out)
      rw [hall]
      have hm9 := mtx_len HKM.out (k := n2)
      rw [hall] at hm9
      have HM9 := hidden hm9
      clear hm9
      have x0 := BY.out.cell (j := 0) rfl
      have x1 := BY.out.cell (j := 1) rfl
      have x2 := BY.out.cell (j := 2) rfl
      have x3 := BY.out.cell (j := 3) rfl
      have xl := BY.out.lt
      go_wp2_with (first | (first | (go_at_call 29; (with_reducible refine (HRT.out _ (hE.trans (by repeat (first | with_reducible exact Ext.refl _ | with_reducible apply Ext.and | with_reducible apply Ext.drewx | with_reducible apply Ext.alloc | with_reducible apply Ext.ext | with_reducible apply Ext.drew | with_reducible refine Ext.setCell ?_ (by simp) _)))).mono ?_); rintro _ _ ⟨rfl, x, rfl⟩) | (go_at_call 32; (with_reducible refine (HPT.out _ (hE.trans (by repeat (first | with_reducible exact Ext.refl _ | with_reducible apply Ext.and | with_reducible apply Ext.drewx | with_reducible apply Ext.alloc | with_reducible apply Ext.ext | with_reducible apply Ext.drew | with_reducible refine Ext.setCell ?_ (by simp) _)))).mono ?_); rintro _ _ ⟨rfl, x, rfl⟩) | (go_at_call 60; (with_reducible refine (itoaS q (by omega) _).mono ?_); rintro _ _ ⟨rfl, x, rfl⟩) | (go_at_call 64; (with_reducible refine (join4 (rtx ⟨n, m⟩) (ptB path) (Lib.decDigits q) (109 :: mtxS marks) 32 _ _ 9 (Blk.newAt _ _ _ (by simp)) (by have h1 := HLEN.out; have h2 := HM9.out; rw [List.length_cons]; omega)).mono ?_); rintro _ _ ⟨rfl, x, rfl⟩)) | ((first | with_reducible refine wp_region_qe (by kernel_rfl) (by kernel_rfl) ?_ | with_reducible refine wp_region_q (by kernel_rfl) (by kernel_rfl) ?_); (repeat' (first | go_big_quiet_step ((first | (go_at_call 29; first | with_reducible exact Calls.qb (by assumption) (HRT.out _ (hE.trans (by repeat (first | with_reducible exact Ext.refl _ | with_reducible apply Ext.and | with_reducible apply Ext.drewx | with_reducible apply Ext.alloc | with_reducible apply Ext.ext | with_reducible apply Ext.drew | with_reducible refine Ext.setCell ?_ (by simp) _)))) | with_reducible exact Calls.q (HRT.out _ (hE.trans (by repeat (first | with_reducible exact Ext.refl _ | with_reducible apply Ext.and | with_reducible apply Ext.drewx | with_reducible apply Ext.alloc | with_reducible apply Ext.ext | with_reducible apply Ext.drew | with_reducible refine Ext.setCell ?_ (by simp) _))))) | (go_at_call 32; first | with_reducible exact Calls.qb (by assumption) (HPT.out _ (hE.trans (by repeat (first | with_reducible exact Ext.refl _ | with_reducible apply Ext.and | with_reducible apply Ext.drewx | with_reducible apply Ext.alloc | with_reducible apply Ext.ext | with_reducible apply Ext.drew | with_reducible refine Ext.setCell ?_ (by simp) _)))) | with_reducible exact Calls.q (HPT.out _ (hE.trans (by repeat (first | with_reducible exact Ext.refl _ | with_reducible apply Ext.and | with_reducible apply Ext.drewx | with_reducible apply Ext.alloc | with_reducible apply Ext.ext | with_reducible apply Ext.drew | with_reducible refine Ext.setCell ?_ (by simp) _))))) | (go_at_call 60; first | with_reducible exact Calls.qb (by assumption) (itoaS q (by omega) _) | with_reducible exact Calls.q (itoaS q (by omega) _)) | (go_at_call 64; first | with_reducible exact Calls.qb (by assumption) (join4 (rtx ⟨n, m⟩) (ptB path) (Lib.decDigits q) (109 :: mtxS marks) 32 _ _ 9 (Blk.newAt _ _ _ (by simp)) (by have h1 := HLEN.out; have h2 := HM9.out; rw [List.length_cons]; omega)) | with_reducible exact Calls.q (join4 (rtx ⟨n, m⟩) (ptB path) (Lib.decDigits q) (109 :: mtxS marks) 32 _ _ 9 (Blk.newAt _ _ _ (by simp)) (by have h1 := HLEN.out; have h2 := HM9.out; rw [List.length_cons]; omega))))) | (refine wpQuiet_split rfl rfl rfl rfl (fun hsp => ?_) (fun hsp => ?_); ((fail_if_success (cases hsp; done)); simp only [hsp]; (try first | have hsq : _ < _ := of_decide_eq_true hsp | have hsq : _ ≤ _ := of_decide_eq_true hsp | have hsq : ¬ _ < _ := of_decide_eq_false hsp | have hsq : ¬ _ ≤ _ := of_decide_eq_false hsp)); rotate_left; ((fail_if_success (cases hsp; done)); simp only [hsp]; (try first | have hsq : _ < _ := of_decide_eq_true hsp | have hsq : _ ≤ _ := of_decide_eq_true hsp | have hsq : ¬ _ < _ := of_decide_eq_false hsp | have hsq : ¬ _ ≤ _ := of_decide_eq_false hsp))))); (all_goals (refine wpQuiet_nil ?_; intro x))) | ((first | with_reducible refine wp_region_seqSe (by kernel_rfl) (by kernel_rfl) ?_ | with_reducible refine wp_region_seqSw (by kernel_rfl) (by kernel_rfl) ?_); (repeat' (first | ((with_reducible refine wpSeqS_pure (by with_unfolding_all rfl) (fun Kq hKq => ?_)); (repeat' (first | go_big_quiet_step (fail) | (refine wpQuiet_split rfl rfl rfl rfl (fun hsp => ?_) (fun hsp => ?_); ((fail_if_success (cases hsp; done)); simp only [hsp]; (try first | have hsq : _ < _ := of_decide_eq_true hsp | have hsq : _ ≤ _ := of_decide_eq_true hsp | have hsq : ¬ _ < _ := of_decide_eq_false hsp | have hsq : ¬ _ ≤ _ := of_decide_eq_false hsp)); rotate_left; ((fail_if_success (cases hsp; done)); simp only [hsp]; (try first | have hsq : _ < _ := of_decide_eq_true hsp | have hsq : _ ≤ _ := of_decide_eq_true hsp | have hsq : ¬ _ < _ := of_decide_eq_false hsp | have hsq : ¬ _ ≤ _ := of_decide_eq_false hsp))))); (all_goals (refine wpQuiet_nil ?_; refine hKq _ ?_; clear hKq Kq))) | ((with_reducible refine wpSeqS_load (by with_unfolding_all rfl) (fun Kq hKq => ?_)); (repeat' (first | go_big_quiet_step (fail) | (refine wpQuiet_split rfl rfl rfl rfl (fun hsp => ?_) (fun hsp => ?_); ((fail_if_success (cases hsp; done)); simp only [hsp]; (try first | have hsq : _ < _ := of_decide_eq_true hsp | have hsq : _ ≤ _ := of_decide_eq_true hsp | have hsq : ¬ _ < _ := of_decide_eq_false hsp | have hsq : ¬ _ ≤ _ := of_decide_eq_false hsp)); rotate_left; ((fail_if_success (cases hsp; done)); simp only [hsp]; (try first | have hsq : _ < _ := of_decide_eq_true hsp | have hsq : _ ≤ _ := of_decide_eq_true hsp | have hsq : ¬ _ < _ := of_decide_eq_false hsp | have hsq : ¬ _ ≤ _ := of_decide_eq_false hsp))))); (all_goals (refine wpQuiet_nil ?_; refine hKq _ ?_; clear hKq Kq))) | ((with_reducible refine wpSeqS_act (by with_unfolding_all rfl) (fun Q' hQ' => ?_)); (go_wp2_with (first | (go_at_call 29; (with_reducible refine (HRT.out _ (hE.trans (by repeat (first | with_reducible exact Ext.refl _ | with_reducible apply Ext.and | with_reducible apply Ext.drewx | with_reducible apply Ext.alloc | with_reducible apply Ext.ext | with_reducible apply Ext.drew | with_reducible refine Ext.setCell ?_ (by simp) _)))).mono ?_); rintro _ _ ⟨rfl, x, rfl⟩) | (go_at_call 32; (with_reducible refine (HPT.out _ (hE.trans (by repeat (first | with_reducible exact Ext.refl _ | with_reducible apply Ext.and | with_reducible apply Ext.drewx | with_reducible apply Ext.alloc | with_reducible apply Ext.ext | with_reducible apply Ext.drew | with_reducible refine Ext.setCell ?_ (by simp) _)))).mono ?_); rintro _ _ ⟨rfl, x, rfl⟩) | (go_at_call 60; (with_reducible refine (itoaS q (by omega) _).mono ?_); rintro _ _ ⟨rfl, x, rfl⟩) | (go_at_call 64; (with_reducible refine (join4 (rtx ⟨n, m⟩) (ptB path) (Lib.decDigits q) (109 :: mtxS marks) 32 _ _ 9 (Blk.newAt _ _ _ (by simp)) (by have h1 := HLEN.out; have h2 := HM9.out; rw [List.length_cons]; omega)).mono ?_); rintro _ _ ⟨rfl, x, rfl⟩))); (all_goals (refine hQ' _ _ rfl ?_ ?_; (first | (focus (intro hbk; simp [brkB] at hbk; done)) | (focus (intro _; change Ext _ _; exact (by repeat (first | with_reducible assumption | with_reducible exact Ext.refl _ | with_reducible apply Ext.and | with_reducible apply Ext.drewx | with_reducible apply Ext.alloc | with_reducible apply Ext.ext | with_reducible apply Ext.drew | with_reducible refine Ext.setCell ?_ (by simp) _))))); clear hQ' Q'))))); (all_goals ((with_reducible refine wpSeqS_nil ?_)))))
      go_ret
      exact ⟨by simp [dig], (by first | exact hE | exact hE.ext _ | exact hE.trans (by repeat (first | with_reducible exact Ext.refl _ | with_reducible apply Ext.and | with_reducible apply Ext.drewx | with_reducible apply Ext.alloc | with_reducible apply Ext.ext | with_reducible apply Ext.drew | with_reducible refine Ext.setCell ?_ (by simp) _)))⟩

end Go.Proofs.YtjeofgalgfopdaaDoor
