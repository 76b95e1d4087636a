/- Routing tables as linked lists: storing a route. No condition. -/
import Derived.Test.YtlehcnfmagjilaaGreatDoorRtP
import Derived.Test.YtlehcnfmagjilaaGreatDoorRds
namespace Go.Proofs.YtlehcnfmagjilaaGreatDoor
open Go Go.RowKit

theorem set_map {A B : List Nd} {n : Nd} {x : Gt} {f : List Nat} : (A ++ ⟨n.b, x, f⟩ :: B).map Nd.d = ((A ++ n :: B).map Nd.d).set A.length x := by
  simp
theorem tell_list {L A B : List Nd} {x : Rt} (hL : L = A ++ B) (hA : ∀ n ∈ A, rc n.d.route.r x.r < 0) (hB : ∀ n B', B = n :: B' → 0 ≤ rc n.d.route.r x.r) (hne : ∀ n B', B = n :: B' → n.d.route.r ≠ x.r) {b : Nat} {f : List Nat} :
    (A ++ ⟨b, ⟨x, false⟩, f⟩ :: B).map Nd.d = insR (gtR x.r) ⟨x, false⟩ (L.map Nd.d) := by
  have hAn : (A.map Nd.d).any (gtR x.r) = false := by
    rw [List.any_eq_false]
    intro g hg
    obtain ⟨n, hn, rfl⟩ := List.mem_map.1 hg
    have := hA n hn
    simp only [gtR, decide_eq_true_eq]
    omega
  subst hL
  cases B with
  | nil =>
    rw [List.append_nil, insR_nil hAn]
    simp only [List.map_append, List.map_cons, List.map_nil]
  | cons n B' =>
    have h1 := hB n B' rfl
    have h2 : rc n.d.route.r x.r ≠ 0 := fun e => hne n B' rfl (rc_zero.1 e)
    simp only [List.map_append, List.map_cons]
    rw [insR_cons hAn (decide_eq_true (by omega))]

set_option maxRecDepth 20000 in
set_option maxHeartbeats 4000000 in
theorem iTell_down (s : Nat) (hs : Int) (many : Int) (N : Nat) (L : List Nd) (xr : Rt) (a1 : Option Addr) (n1 c1 : Nat) (a2 : Option Addr) (n2 c2 : Nat) (w : World) (h : Ses N w s hs false many L) :
    Calls Tryz.prog 41 #[.pointer (some ⟨s, 0, none⟩), .agg #[.int .i64 xr.r.f, .int .i64 xr.r.b, .slice a1 n1 c1, .int .i64 xr.like, .slice a2 n2 c2]] w fun e w' => ∃ p, e = .returned (.iface 118 (.pointer (some p))) ∧ Ext w w' := by
  have s1 := h.1.cell (j := 1) rfl
  have sl := h.1.lt
  clear h
  go_enter Tryz.func41, Tryz.ntmps41
  go_wp2_with (first | ((first | with_reducible refine wp_region_qe (by kernel_rfl) (by kernel_rfl) ?_ | with_reducible refine wp_region_q (by kernel_rfl) (by kernel_rfl) ?_); (repeat' (first | go_big_quiet_step (fail) | (refine wpQuiet_split rfl rfl rfl rfl (fun hsp => ?_) (fun hsp => ?_); ((fail_if_success (cases hsp; done)); simp only [hsp]; (try first | have hsq : _ < _ := of_decide_eq_true hsp | have hsq : _ ≤ _ := of_decide_eq_true hsp | have hsq : ¬ _ < _ := of_decide_eq_false hsp | have hsq : ¬ _ ≤ _ := of_decide_eq_false hsp)); rotate_left; ((fail_if_success (cases hsp; done)); simp only [hsp]; (try first | have hsq : _ < _ := of_decide_eq_true hsp | have hsq : _ ≤ _ := of_decide_eq_true hsp | have hsq : ¬ _ < _ := of_decide_eq_false hsp | have hsq : ¬ _ ≤ _ := of_decide_eq_false hsp))))); (all_goals (refine wpQuiet_nil ?_; intro x))) | ((first | with_reducible refine wp_region_seqe (by kernel_rfl) (by kernel_rfl) ?_ | with_reducible refine wp_region_seqw (by kernel_rfl) (by kernel_rfl) ?_); (repeat' (first | ((with_reducible refine wpSeq_pure (by with_unfolding_all rfl) (fun Kq hKq => ?_)); (repeat' (first | go_big_quiet_step (fail) | (refine wpQuiet_split rfl rfl rfl rfl (fun hsp => ?_) (fun hsp => ?_); ((fail_if_success (cases hsp; done)); simp only [hsp]; (try first | have hsq : _ < _ := of_decide_eq_true hsp | have hsq : _ ≤ _ := of_decide_eq_true hsp | have hsq : ¬ _ < _ := of_decide_eq_false hsp | have hsq : ¬ _ ≤ _ := of_decide_eq_false hsp)); rotate_left; ((fail_if_success (cases hsp; done)); simp only [hsp]; (try first | have hsq : _ < _ := of_decide_eq_true hsp | have hsq : _ ≤ _ := of_decide_eq_true hsp | have hsq : ¬ _ < _ := of_decide_eq_false hsp | have hsq : ¬ _ ≤ _ := of_decide_eq_false hsp))))); (all_goals (refine wpQuiet_nil ?_; refine hKq _ ?_; clear hKq Kq))) | ((with_reducible refine wpSeq_act (by with_unfolding_all rfl) (fun Q' hQ' => ?_)); (go_wp2_with fail); (all_goals (refine hQ' _ _ rfl ?_ ?_; (change Ext _ _; exact (by repeat with_reducible first | exact Ext.refl _ | apply Ext.and | apply Ext.drewx | apply Ext.alloc | apply Ext.ext | apply Ext.drew | refine Ext.setCell ?_ (by simp) _)); clear hQ' Q'))))); (all_goals ((with_reducible refine wpSeq_nil ?_)))))
  go_ret
  exact ⟨_, rfl, (by repeat with_reducible first | exact Ext.refl _ | apply Ext.and | apply Ext.drewx | apply Ext.alloc | apply Ext.ext | apply Ext.drew | refine Ext.setCell ?_ (by simp) _)⟩

set_option maxRecDepth 20000 in
set_option maxHeartbeats 4000000 in
theorem iTell_full (s : Nat) (hs : Int) (many : Int) (N : Nat) (L : List Nd) (xr : Rt) (a1 : Option Addr) (n1 c1 : Nat) (a2 : Option Addr) (n2 c2 : Nat) (w : World) (h : Ses N w s hs true many L) (hr : ∀ n ∈ L, rok n.d.route.r.f n.d.route.r.b = true) (hx : rok xr.r.f xr.r.b = true) (ha : ascR (L.map Nd.d)) (hno : (L.map Nd.d).any (gotR xr.r) = false) (hm6 : many = 6) :
    Calls Tryz.prog 41 #[.pointer (some ⟨s, 0, none⟩), .agg #[.int .i64 xr.r.f, .int .i64 xr.r.b, .slice a1 n1 c1, .int .i64 xr.like, .slice a2 n2 c2]] w fun e w' => ∃ p, e = .returned (.iface 118 (.pointer (some p))) ∧ Ext w w' := by
  have H := hidden h
  have HR := hidden hr
  have HX := hidden hx
  have HA := hidden ha
  have s1 := h.1.cell (j := 1) rfl
  have sl := h.1.lt
  have HNO := hidden hno
  clear h hr hx ha hno
  subst hm6
  go_enter Tryz.func41, Tryz.ntmps41
  go_upto_region 4 with (first | (first | ((go_at_call 79; (with_reducible refine (iSeek_any N s hs true _ L xr.r _ (H.out.ext (by repeat with_reducible first | exact Ext.refl _ | apply Ext.and | apply Ext.drewx | apply Ext.alloc | apply Ext.ext | apply Ext.drew | refine Ext.setCell ?_ (by simp) _)) HR.out HX.out).mono ?_); rintro _ _ ⟨A, rfl, HC, y1, rfl⟩))) | ((first | with_reducible refine wp_region_qe (by kernel_rfl) (by kernel_rfl) ?_ | with_reducible refine wp_region_q (by kernel_rfl) (by kernel_rfl) ?_); (repeat' (first | go_big_quiet_step (fail) | (refine wpQuiet_split rfl rfl rfl rfl (fun hsp => ?_) (fun hsp => ?_); ((fail_if_success (cases hsp; done)); simp only [hsp]; (try first | have hsq : _ < _ := of_decide_eq_true hsp | have hsq : _ ≤ _ := of_decide_eq_true hsp | have hsq : ¬ _ < _ := of_decide_eq_false hsp | have hsq : ¬ _ ≤ _ := of_decide_eq_false hsp)); rotate_left; ((fail_if_success (cases hsp; done)); simp only [hsp]; (try first | have hsq : _ < _ := of_decide_eq_true hsp | have hsq : _ ≤ _ := of_decide_eq_true hsp | have hsq : ¬ _ < _ := of_decide_eq_false hsp | have hsq : ¬ _ ≤ _ := of_decide_eq_false hsp))))); (all_goals (refine wpQuiet_nil ?_; intro x))) | ((first | with_reducible refine wp_region_seqSe (by kernel_rfl) (by kernel_rfl) ?_ | with_reducible refine wp_region_seqSw (by kernel_rfl) (by kernel_rfl) ?_); (repeat' (first | ((with_reducible refine wpSeqS_pure (by with_unfolding_all rfl) (fun Kq hKq => ?_)); (repeat' (first | go_big_quiet_step (fail) | (refine wpQuiet_split rfl rfl rfl rfl (fun hsp => ?_) (fun hsp => ?_); ((fail_if_success (cases hsp; done)); simp only [hsp]; (try first | have hsq : _ < _ := of_decide_eq_true hsp | have hsq : _ ≤ _ := of_decide_eq_true hsp | have hsq : ¬ _ < _ := of_decide_eq_false hsp | have hsq : ¬ _ ≤ _ := of_decide_eq_false hsp)); rotate_left; ((fail_if_success (cases hsp; done)); simp only [hsp]; (try first | have hsq : _ < _ := of_decide_eq_true hsp | have hsq : _ ≤ _ := of_decide_eq_true hsp | have hsq : ¬ _ < _ := of_decide_eq_false hsp | have hsq : ¬ _ ≤ _ := of_decide_eq_false hsp))))); (all_goals (refine wpQuiet_nil ?_; refine hKq _ ?_; clear hKq Kq))) | ((with_reducible refine wpSeqS_load (by with_unfolding_all rfl) (fun Kq hKq => ?_)); (repeat' (first | go_big_quiet_step (fail) | (refine wpQuiet_split rfl rfl rfl rfl (fun hsp => ?_) (fun hsp => ?_); ((fail_if_success (cases hsp; done)); simp only [hsp]; (try first | have hsq : _ < _ := of_decide_eq_true hsp | have hsq : _ ≤ _ := of_decide_eq_true hsp | have hsq : ¬ _ < _ := of_decide_eq_false hsp | have hsq : ¬ _ ≤ _ := of_decide_eq_false hsp)); rotate_left; ((fail_if_success (cases hsp; done)); simp only [hsp]; (try first | have hsq : _ < _ := of_decide_eq_true hsp | have hsq : _ ≤ _ := of_decide_eq_true hsp | have hsq : ¬ _ < _ := of_decide_eq_false hsp | have hsq : ¬ _ ≤ _ := of_decide_eq_false hsp))))); (all_goals (refine wpQuiet_nil ?_; refine hKq _ ?_; clear hKq Kq))) | ((with_reducible refine wpSeqS_act (by with_unfolding_all rfl) (fun Q' hQ' => ?_)); (go_wp2_with (first | ((go_at_call 79; (with_reducible refine (iSeek_any N s hs true _ L xr.r _ (H.out.ext (by repeat with_reducible first | exact Ext.refl _ | apply Ext.and | apply Ext.drewx | apply Ext.alloc | apply Ext.ext | apply Ext.drew | refine Ext.setCell ?_ (by simp) _)) HR.out HX.out).mono ?_); rintro _ _ ⟨A, rfl, HC, y1, rfl⟩)))); (all_goals (refine hQ' _ _ rfl ?_ ?_; (first | (focus (intro hbk; simp [brkB] at hbk; done)) | (focus (intro _; change Ext _ _; exact (by repeat with_reducible first | assumption | exact Ext.refl _ | apply Ext.and | apply Ext.drewx | apply Ext.alloc | apply Ext.ext | apply Ext.drew | refine Ext.setCell ?_ (by simp) _)))); clear hQ' Q'))))); (all_goals ((with_reducible refine wpSeqS_nil ?_)))))
  refine wp_name (fun W hW => ?_)
  have hE0 : Ext w W := by rw [hW]; exact (by repeat with_reducible first | exact Ext.refl _ | apply Ext.and | apply Ext.drewx | apply Ext.alloc | apply Ext.ext | apply Ext.drew | refine Ext.setCell ?_ (by simp) _)
  have HE0 := hidden hE0
  have BX := hidden (show Blk W w.heap.size 40 [.int .i64 xr.r.f, .int .i64 xr.r.b, .slice a1 n1 c1, .int .i64 xr.like, .slice a2 n2 c2] by rw [hW]; exact (Blk.newAt w #[_, _, _, _, _] _ (by simp)).extends (by repeat with_reducible first | exact Ext.refl _ | apply Ext.and | apply Ext.drewx | apply Ext.alloc | apply Ext.ext | apply Ext.drew | refine Ext.setCell ?_ (by simp) _))
  clear hW s1 sl
  obtain ⟨B, hL, hAA, hBB⟩ := HC.out
  have HL := hidden hL
  have hses := H.out.ext hE0
  have m3 := hses.1.cell (j := 3) rfl
  have ml := hses.1.lt
  clear hses
  have HW := hidden (show Ses N W s hs true 6 (A ++ B) by rw [← HL.out]; exact H.out.ext hE0)
  obtain ⟨eb, eo, ee, ecs, he, hm, hbk, hcs⟩ := HW.out.lastBlk
  have hel := hbk.lt
  have hec := hbk.cell hcs
  have hef := hbk.frozen eo
  have hebN := HW.out.2.2.2.2 eb (mem_sapp hm)
  have x0 := BX.out.cell (j := 0) rfl
  have x1 := BX.out.cell (j := 1) rfl
  have x2 := BX.out.cell (j := 2) rfl
  have x3 := BX.out.cell (j := 3) rfl
  have x4 := BX.out.cell (j := 4) rfl
  have xl := BX.out.lt
  rw [he]
  have HE := hidden he
  clear he hm hbk hcs
  rcases ses_split HL.out hAA hBB HA.out with ⟨n, B', rfl, e, hy, _⟩ | ⟨hne, _⟩
  · rw [HNO.out] at hy; cases hy
  clear hL hAA hBB HC
  cases B with
  | nil =>
    rw [show hdv [] nilp = .pointer none from rfl] at hec
    go_wp2_with (first | ((first | with_reducible refine wp_region_qe (by kernel_rfl) (by kernel_rfl) ?_ | with_reducible refine wp_region_q (by kernel_rfl) (by kernel_rfl) ?_); (repeat' (first | go_big_quiet_step (fail) | (refine wpQuiet_split rfl rfl rfl rfl (fun hsp => ?_) (fun hsp => ?_); ((fail_if_success (cases hsp; done)); simp only [hsp]; (try first | have hsq : _ < _ := of_decide_eq_true hsp | have hsq : _ ≤ _ := of_decide_eq_true hsp | have hsq : ¬ _ < _ := of_decide_eq_false hsp | have hsq : ¬ _ ≤ _ := of_decide_eq_false hsp)); rotate_left; ((fail_if_success (cases hsp; done)); simp only [hsp]; (try first | have hsq : _ < _ := of_decide_eq_true hsp | have hsq : _ ≤ _ := of_decide_eq_true hsp | have hsq : ¬ _ < _ := of_decide_eq_false hsp | have hsq : ¬ _ ≤ _ := of_decide_eq_false hsp))))); (all_goals (refine wpQuiet_nil ?_; intro x))) | ((first | with_reducible refine wp_region_seqe (by kernel_rfl) (by kernel_rfl) ?_ | with_reducible refine wp_region_seqw (by kernel_rfl) (by kernel_rfl) ?_); (repeat' (first | ((with_reducible refine wpSeq_pure (by with_unfolding_all rfl) (fun Kq hKq => ?_)); (repeat' (first | go_big_quiet_step (fail) | (refine wpQuiet_split rfl rfl rfl rfl (fun hsp => ?_) (fun hsp => ?_); ((fail_if_success (cases hsp; done)); simp only [hsp]; (try first | have hsq : _ < _ := of_decide_eq_true hsp | have hsq : _ ≤ _ := of_decide_eq_true hsp | have hsq : ¬ _ < _ := of_decide_eq_false hsp | have hsq : ¬ _ ≤ _ := of_decide_eq_false hsp)); rotate_left; ((fail_if_success (cases hsp; done)); simp only [hsp]; (try first | have hsq : _ < _ := of_decide_eq_true hsp | have hsq : _ ≤ _ := of_decide_eq_true hsp | have hsq : ¬ _ < _ := of_decide_eq_false hsp | have hsq : ¬ _ ≤ _ := of_decide_eq_false hsp))))); (all_goals (refine wpQuiet_nil ?_; refine hKq _ ?_; clear hKq Kq))) | ((with_reducible refine wpSeq_act (by with_unfolding_all rfl) (fun Q' hQ' => ?_)); (go_wp2_with fail); (all_goals (refine hQ' _ _ rfl ?_ ?_; (change Ext _ _; exact (by repeat with_reducible first | exact Ext.refl _ | apply Ext.and | apply Ext.drewx | apply Ext.alloc | apply Ext.ext | apply Ext.drew | refine Ext.setCell ?_ (by simp) _)); clear hQ' Q'))))); (all_goals ((with_reducible refine wpSeq_nil ?_)))))
    go_ret
    exact ⟨_, rfl, HE0.out.trans (by repeat with_reducible first | exact Ext.refl _ | apply Ext.and | apply Ext.drewx | apply Ext.alloc | apply Ext.ext | apply Ext.drew | refine Ext.setCell ?_ (by simp) _)⟩
  | cons nd B =>
    obtain ⟨ys, y1, y2, y3, _⟩ := HW.out.node
    obtain ⟨b1, m1, d1, b2, m2, d2, p1, p2, rfl, j1, j2, j3, j4, j5, hpf⟩ := y3
    have n0 := y2.cell (j := 0) rfl
    have n1 := y2.cell (j := 1) rfl
    have n2 := y2.cell (j := 2) rfl
    have n3 := y2.cell (j := 3) rfl
    have n4 := y2.cell (j := 4) rfl
    have n5 := y2.cell (j := 5) rfl
    have nl := y2.lt
    clear y1 y2 j1 j2 j3 j4 j5 hpf
    rw [show hdv (nd :: B) nilp = .pointer (some ⟨nd.b, 0, none⟩) from rfl] at hec
    have hnq := hne nd B rfl
    have heql : ∀ w', (binOp .eql 38 (.agg #[.int .i64 nd.d.route.r.f, .int .i64 nd.d.route.r.b]) (.agg #[.int .i64 xr.r.f, .int .i64 xr.r.b])).run Tryz.prog w' = .ok (.bool false) w' := fun w' => (eqS_Rg nd.d.route.r xr.r w').trans (by simp [hnq])
    clear hnq hne
    go_wp2_with (first | ((first | with_reducible refine wp_region_qe (by kernel_rfl) (by kernel_rfl) ?_ | with_reducible refine wp_region_q (by kernel_rfl) (by kernel_rfl) ?_); (repeat' (first | go_big_quiet_step (fail) | (refine wpQuiet_split rfl rfl rfl rfl (fun hsp => ?_) (fun hsp => ?_); ((fail_if_success (cases hsp; done)); simp only [hsp]; (try first | have hsq : _ < _ := of_decide_eq_true hsp | have hsq : _ ≤ _ := of_decide_eq_true hsp | have hsq : ¬ _ < _ := of_decide_eq_false hsp | have hsq : ¬ _ ≤ _ := of_decide_eq_false hsp)); rotate_left; ((fail_if_success (cases hsp; done)); simp only [hsp]; (try first | have hsq : _ < _ := of_decide_eq_true hsp | have hsq : _ ≤ _ := of_decide_eq_true hsp | have hsq : ¬ _ < _ := of_decide_eq_false hsp | have hsq : ¬ _ ≤ _ := of_decide_eq_false hsp))))); (all_goals (refine wpQuiet_nil ?_; intro x))) | ((first | with_reducible refine wp_region_seqe (by kernel_rfl) (by kernel_rfl) ?_ | with_reducible refine wp_region_seqw (by kernel_rfl) (by kernel_rfl) ?_); (repeat' (first | ((with_reducible refine wpSeq_pure (by with_unfolding_all rfl) (fun Kq hKq => ?_)); (repeat' (first | go_big_quiet_step (fail) | (refine wpQuiet_split rfl rfl rfl rfl (fun hsp => ?_) (fun hsp => ?_); ((fail_if_success (cases hsp; done)); simp only [hsp]; (try first | have hsq : _ < _ := of_decide_eq_true hsp | have hsq : _ ≤ _ := of_decide_eq_true hsp | have hsq : ¬ _ < _ := of_decide_eq_false hsp | have hsq : ¬ _ ≤ _ := of_decide_eq_false hsp)); rotate_left; ((fail_if_success (cases hsp; done)); simp only [hsp]; (try first | have hsq : _ < _ := of_decide_eq_true hsp | have hsq : _ ≤ _ := of_decide_eq_true hsp | have hsq : ¬ _ < _ := of_decide_eq_false hsp | have hsq : ¬ _ ≤ _ := of_decide_eq_false hsp))))); (all_goals (refine wpQuiet_nil ?_; refine hKq _ ?_; clear hKq Kq))) | ((with_reducible refine wpSeq_act (by with_unfolding_all rfl) (fun Q' hQ' => ?_)); (go_wp2_with fail); (all_goals (refine hQ' _ _ rfl ?_ ?_; (change Ext _ _; exact (by repeat with_reducible first | exact Ext.refl _ | apply Ext.and | apply Ext.drewx | apply Ext.alloc | apply Ext.ext | apply Ext.drew | refine Ext.setCell ?_ (by simp) _)); clear hQ' Q'))))); (all_goals ((with_reducible refine wpSeq_nil ?_)))))
    go_ret
    exact ⟨_, rfl, HE0.out.trans (by repeat with_reducible first | exact Ext.refl _ | apply Ext.and | apply Ext.drewx | apply Ext.alloc | apply Ext.ext | apply Ext.drew | refine Ext.setCell ?_ (by simp) _)⟩

set_option maxRecDepth 20000 in
set_option maxHeartbeats 4000000 in
theorem iTell_hit (s : Nat) (hs : Int) (many : Int) (N : Nat) (L : List Nd) (xr : Rt) (a1 : Option Addr) (n1 c1 : Nat) (a2 : Option Addr) (n2 c2 : Nat) (w : World) (h : Ses N w s hs true many L) (hr : ∀ n ∈ L, rok n.d.route.r.f n.d.route.r.b = true) (hx : rok xr.r.f xr.r.b = true) (ha : ascR (L.map Nd.d)) (hyes : (L.map Nd.d).any (gotR xr.r) = true) {i0 : Nat} (hi : findI (gotR xr.r) (L.map Nd.d) = (i0 : Int)) (i1 : I64 xr.r.f) (i2 : I64 xr.r.b) (h1 : SlRd w a1 n1 c1 xr.path) (i3 : I64 xr.like) (h2 : SlRd w a2 n2 c2 xr.marks) (k1 : n1 ≤ 1000000000) (k2 : n2 ≤ 1000000000) :
    Calls Tryz.prog 41 #[.pointer (some ⟨s, 0, none⟩), .agg #[.int .i64 xr.r.f, .int .i64 xr.r.b, .slice a1 n1 c1, .int .i64 xr.like, .slice a2 n2 c2]] w fun e w' => e = .returned .nilIface ∧ Hid (∃ (L' : List Nd) (m' : Int), Ses N w' s hs true m' L' ∧ L'.map Nd.d = (L.map Nd.d).set i0 ⟨xr, false⟩) ∧ Hid (∀ w0, Ext w0 w → w0.heap.size ≤ N → Ext w0 w') := by
  have H := hidden h
  have HR := hidden hr
  have HX := hidden hx
  have HA := hidden ha
  have s1 := h.1.cell (j := 1) rfl
  have sl := h.1.lt
  have H1 := hidden h1
  have H2 := hidden h2
  have I1 := hidden i1
  have I2 := hidden i2
  have I3 := hidden i3
  clear i1 i2 i3 h1 h2
  have HYES := hidden hyes
  have HI0 := hidden hi
  clear h hr hx ha hyes hi
  go_enter Tryz.func41, Tryz.ntmps41
  go_upto_region 4 with (first | (first | ((go_at_call 79; (with_reducible refine (iSeek_any N s hs true _ L xr.r _ (H.out.ext (by repeat with_reducible first | exact Ext.refl _ | apply Ext.and | apply Ext.drewx | apply Ext.alloc | apply Ext.ext | apply Ext.drew | refine Ext.setCell ?_ (by simp) _)) HR.out HX.out).mono ?_); rintro _ _ ⟨A, rfl, HC, y1, rfl⟩))) | ((first | with_reducible refine wp_region_qe (by kernel_rfl) (by kernel_rfl) ?_ | with_reducible refine wp_region_q (by kernel_rfl) (by kernel_rfl) ?_); (repeat' (first | go_big_quiet_step (fail) | (refine wpQuiet_split rfl rfl rfl rfl (fun hsp => ?_) (fun hsp => ?_); ((fail_if_success (cases hsp; done)); simp only [hsp]; (try first | have hsq : _ < _ := of_decide_eq_true hsp | have hsq : _ ≤ _ := of_decide_eq_true hsp | have hsq : ¬ _ < _ := of_decide_eq_false hsp | have hsq : ¬ _ ≤ _ := of_decide_eq_false hsp)); rotate_left; ((fail_if_success (cases hsp; done)); simp only [hsp]; (try first | have hsq : _ < _ := of_decide_eq_true hsp | have hsq : _ ≤ _ := of_decide_eq_true hsp | have hsq : ¬ _ < _ := of_decide_eq_false hsp | have hsq : ¬ _ ≤ _ := of_decide_eq_false hsp))))); (all_goals (refine wpQuiet_nil ?_; intro x))) | ((first | with_reducible refine wp_region_seqSe (by kernel_rfl) (by kernel_rfl) ?_ | with_reducible refine wp_region_seqSw (by kernel_rfl) (by kernel_rfl) ?_); (repeat' (first | ((with_reducible refine wpSeqS_pure (by with_unfolding_all rfl) (fun Kq hKq => ?_)); (repeat' (first | go_big_quiet_step (fail) | (refine wpQuiet_split rfl rfl rfl rfl (fun hsp => ?_) (fun hsp => ?_); ((fail_if_success (cases hsp; done)); simp only [hsp]; (try first | have hsq : _ < _ := of_decide_eq_true hsp | have hsq : _ ≤ _ := of_decide_eq_true hsp | have hsq : ¬ _ < _ := of_decide_eq_false hsp | have hsq : ¬ _ ≤ _ := of_decide_eq_false hsp)); rotate_left; ((fail_if_success (cases hsp; done)); simp only [hsp]; (try first | have hsq : _ < _ := of_decide_eq_true hsp | have hsq : _ ≤ _ := of_decide_eq_true hsp | have hsq : ¬ _ < _ := of_decide_eq_false hsp | have hsq : ¬ _ ≤ _ := of_decide_eq_false hsp))))); (all_goals (refine wpQuiet_nil ?_; refine hKq _ ?_; clear hKq Kq))) | ((with_reducible refine wpSeqS_load (by with_unfolding_all rfl) (fun Kq hKq => ?_)); (repeat' (first | go_big_quiet_step (fail) | (refine wpQuiet_split rfl rfl rfl rfl (fun hsp => ?_) (fun hsp => ?_); ((fail_if_success (cases hsp; done)); simp only [hsp]; (try first | have hsq : _ < _ := of_decide_eq_true hsp | have hsq : _ ≤ _ := of_decide_eq_true hsp | have hsq : ¬ _ < _ := of_decide_eq_false hsp | have hsq : ¬ _ ≤ _ := of_decide_eq_false hsp)); rotate_left; ((fail_if_success (cases hsp; done)); simp only [hsp]; (try first | have hsq : _ < _ := of_decide_eq_true hsp | have hsq : _ ≤ _ := of_decide_eq_true hsp | have hsq : ¬ _ < _ := of_decide_eq_false hsp | have hsq : ¬ _ ≤ _ := of_decide_eq_false hsp))))); (all_goals (refine wpQuiet_nil ?_; refine hKq _ ?_; clear hKq Kq))) | ((with_reducible refine wpSeqS_act (by with_unfolding_all rfl) (fun Q' hQ' => ?_)); (go_wp2_with (first | ((go_at_call 79; (with_reducible refine (iSeek_any N s hs true _ L xr.r _ (H.out.ext (by repeat with_reducible first | exact Ext.refl _ | apply Ext.and | apply Ext.drewx | apply Ext.alloc | apply Ext.ext | apply Ext.drew | refine Ext.setCell ?_ (by simp) _)) HR.out HX.out).mono ?_); rintro _ _ ⟨A, rfl, HC, y1, rfl⟩)))); (all_goals (refine hQ' _ _ rfl ?_ ?_; (first | (focus (intro hbk; simp [brkB] at hbk; done)) | (focus (intro _; change Ext _ _; exact (by repeat with_reducible first | assumption | exact Ext.refl _ | apply Ext.and | apply Ext.drewx | apply Ext.alloc | apply Ext.ext | apply Ext.drew | refine Ext.setCell ?_ (by simp) _)))); clear hQ' Q'))))); (all_goals ((with_reducible refine wpSeqS_nil ?_)))))
  refine wp_name (fun W hW => ?_)
  have hE0 : Ext w W := by rw [hW]; exact (by repeat with_reducible first | exact Ext.refl _ | apply Ext.and | apply Ext.drewx | apply Ext.alloc | apply Ext.ext | apply Ext.drew | refine Ext.setCell ?_ (by simp) _)
  have HE0 := hidden hE0
  have BX := hidden (show Blk W w.heap.size 40 [.int .i64 xr.r.f, .int .i64 xr.r.b, .slice a1 n1 c1, .int .i64 xr.like, .slice a2 n2 c2] by rw [hW]; exact (Blk.newAt w #[_, _, _, _, _] _ (by simp)).extends (by repeat with_reducible first | exact Ext.refl _ | apply Ext.and | apply Ext.drewx | apply Ext.alloc | apply Ext.ext | apply Ext.drew | refine Ext.setCell ?_ (by simp) _))
  clear hW s1 sl
  obtain ⟨B, hL, hAA, hBB⟩ := HC.out
  rcases ses_split hL hAA hBB HA.out with ⟨nd, B', rfl, e, _, hfi⟩ | ⟨_, hno⟩
  case inr => rw [HYES.out] at hno; cases hno
  have HW := hidden (show Ses N W s hs true many (A ++ nd :: B') by rw [← hL]; exact H.out.ext hE0)
  have HL := hidden hL
  have hiA : i0 = A.length := by rw [HI0.out] at hfi; omega
  clear hL hAA hBB HC hfi
  obtain ⟨eb, eo, ee, ecs, he, hm, hbk, hcs⟩ := HW.out.lastBlk
  have hel := hbk.lt
  have hec := hbk.cell hcs
  have hef := hbk.frozen eo
  have hebN := HW.out.2.2.2.2 eb (mem_sapp hm)
  have x0 := BX.out.cell (j := 0) rfl
  have x1 := BX.out.cell (j := 1) rfl
  have x2 := BX.out.cell (j := 2) rfl
  have x3 := BX.out.cell (j := 3) rfl
  have x4 := BX.out.cell (j := 4) rfl
  have xl := BX.out.lt
  rw [he]
  have HE := hidden he
  clear he hm hbk hcs
  obtain ⟨ys, y1, y2, y3, _⟩ := HW.out.node
  obtain ⟨b1, m1, d1, b2, m2, d2, p1, p2, rfl, j1, j2, j3, j4, j5, hpf⟩ := y3
  have n0 := y2.cell (j := 0) rfl
  have n1 := y2.cell (j := 1) rfl
  have n2 := y2.cell (j := 2) rfl
  have n3 := y2.cell (j := 3) rfl
  have n4 := y2.cell (j := 4) rfl
  have n5 := y2.cell (j := 5) rfl
  have nl := y2.lt
  have nf0 := y2.frozen 0
  have nf1 := y2.frozen 1
  have nf2 := y2.frozen 2
  have nf3 := y2.frozen 3
  have nf4 := y2.frozen 4
  have nf5 := y2.frozen 5
  have hnN := HW.out.2.2.2.2 nd.b (List.mem_cons_of_mem _ (mem_allB_b (by simp)))
  have hsz := HW.out.lt
  clear y1 y2 j1 j2 j3 j4 j5 hpf
  rw [show hdv (nd :: B') nilp = .pointer (some ⟨nd.b, 0, none⟩) from rfl] at hec
  have heql : ∀ w', (binOp .eql 38 (.agg #[.int .i64 nd.d.route.r.f, .int .i64 nd.d.route.r.b]) (.agg #[.int .i64 xr.r.f, .int .i64 xr.r.b])).run Tryz.prog w' = .ok (.bool true) w' := fun w' => (eqS_Rg nd.d.route.r xr.r w').trans (by simp [e])
  clear e
  have HSZ := hidden hsz
  have hsN : N ≤ W.heap.size := by have h3 := HW.out.2.2.2.2 s (by simp); have h4 := hsz s (by simp); omega
  clear hsz
  go_wp2_with (first | (first | ((go_at_call 61; (with_reducible refine (copyRoute_any _ _ _ _ _ _ xr.path _ _ _ xr.marks _ (H1.out.stays ((by repeat with_reducible first | assumption | exact Ext.refl _ | apply Ext.and | apply Ext.drewx | apply Ext.alloc | apply Ext.ext | apply Ext.drew | refine Ext.setCell ?_ (by simp) _) : Ext w _).below) (H2.out.stays ((by repeat with_reducible first | assumption | exact Ext.refl _ | apply Ext.and | apply Ext.drewx | apply Ext.alloc | apply Ext.ext | apply Ext.drew | refine Ext.setCell ?_ (by simp) _) : Ext w _).below) k1 k2).mono ?_); rintro _ _ ⟨e1, m1', d1', e2, m2', d2', rfl, C1, y2, rfl⟩; (try rw [ext_ext] at C1); obtain ⟨f, ho, hf, hlo⟩ := Cp.gt (d := ⟨xr, false⟩) C1 I1.out I2.out I3.out; have HO := hidden ho; have HN := hidden hf; have HLO := hidden (show ∀ b ∈ f, W.heap.size ≤ b from fun b hb => Nat.le_trans ((by repeat with_reducible first | exact Ext.refl _ | apply Ext.and | apply Ext.drewx | apply Ext.alloc | apply Ext.ext | apply Ext.drew | refine Ext.setCell ?_ (by simp) _) : Ext W _).size (hlo b hb)); clear C1 ho hf hlo))) | ((first | with_reducible refine wp_region_qe (by kernel_rfl) (by kernel_rfl) ?_ | with_reducible refine wp_region_q (by kernel_rfl) (by kernel_rfl) ?_); (repeat' (first | go_big_quiet_step (fail) | (refine wpQuiet_split rfl rfl rfl rfl (fun hsp => ?_) (fun hsp => ?_); ((fail_if_success (cases hsp; done)); simp only [hsp]; (try first | have hsq : _ < _ := of_decide_eq_true hsp | have hsq : _ ≤ _ := of_decide_eq_true hsp | have hsq : ¬ _ < _ := of_decide_eq_false hsp | have hsq : ¬ _ ≤ _ := of_decide_eq_false hsp)); rotate_left; ((fail_if_success (cases hsp; done)); simp only [hsp]; (try first | have hsq : _ < _ := of_decide_eq_true hsp | have hsq : _ ≤ _ := of_decide_eq_true hsp | have hsq : ¬ _ < _ := of_decide_eq_false hsp | have hsq : ¬ _ ≤ _ := of_decide_eq_false hsp))))); (all_goals (refine wpQuiet_nil ?_; intro x))) | ((first | with_reducible refine wp_region_seqSe (by kernel_rfl) (by kernel_rfl) ?_ | with_reducible refine wp_region_seqSw (by kernel_rfl) (by kernel_rfl) ?_); (repeat' (first | ((with_reducible refine wpSeqS_pure (by with_unfolding_all rfl) (fun Kq hKq => ?_)); (repeat' (first | go_big_quiet_step (fail) | (refine wpQuiet_split rfl rfl rfl rfl (fun hsp => ?_) (fun hsp => ?_); ((fail_if_success (cases hsp; done)); simp only [hsp]; (try first | have hsq : _ < _ := of_decide_eq_true hsp | have hsq : _ ≤ _ := of_decide_eq_true hsp | have hsq : ¬ _ < _ := of_decide_eq_false hsp | have hsq : ¬ _ ≤ _ := of_decide_eq_false hsp)); rotate_left; ((fail_if_success (cases hsp; done)); simp only [hsp]; (try first | have hsq : _ < _ := of_decide_eq_true hsp | have hsq : _ ≤ _ := of_decide_eq_true hsp | have hsq : ¬ _ < _ := of_decide_eq_false hsp | have hsq : ¬ _ ≤ _ := of_decide_eq_false hsp))))); (all_goals (refine wpQuiet_nil ?_; refine hKq _ ?_; clear hKq Kq))) | ((with_reducible refine wpSeqS_load (by with_unfolding_all rfl) (fun Kq hKq => ?_)); (repeat' (first | go_big_quiet_step (fail) | (refine wpQuiet_split rfl rfl rfl rfl (fun hsp => ?_) (fun hsp => ?_); ((fail_if_success (cases hsp; done)); simp only [hsp]; (try first | have hsq : _ < _ := of_decide_eq_true hsp | have hsq : _ ≤ _ := of_decide_eq_true hsp | have hsq : ¬ _ < _ := of_decide_eq_false hsp | have hsq : ¬ _ ≤ _ := of_decide_eq_false hsp)); rotate_left; ((fail_if_success (cases hsp; done)); simp only [hsp]; (try first | have hsq : _ < _ := of_decide_eq_true hsp | have hsq : _ ≤ _ := of_decide_eq_true hsp | have hsq : ¬ _ < _ := of_decide_eq_false hsp | have hsq : ¬ _ ≤ _ := of_decide_eq_false hsp))))); (all_goals (refine wpQuiet_nil ?_; refine hKq _ ?_; clear hKq Kq))) | ((with_reducible refine wpSeqS_act (by with_unfolding_all rfl) (fun Q' hQ' => ?_)); (go_wp2_with (first | ((go_at_call 61; (with_reducible refine (copyRoute_any _ _ _ _ _ _ xr.path _ _ _ xr.marks _ (H1.out.stays ((by repeat with_reducible first | assumption | exact Ext.refl _ | apply Ext.and | apply Ext.drewx | apply Ext.alloc | apply Ext.ext | apply Ext.drew | refine Ext.setCell ?_ (by simp) _) : Ext w _).below) (H2.out.stays ((by repeat with_reducible first | assumption | exact Ext.refl _ | apply Ext.and | apply Ext.drewx | apply Ext.alloc | apply Ext.ext | apply Ext.drew | refine Ext.setCell ?_ (by simp) _) : Ext w _).below) k1 k2).mono ?_); rintro _ _ ⟨e1, m1', d1', e2, m2', d2', rfl, C1, y2, rfl⟩; (try rw [ext_ext] at C1); obtain ⟨f, ho, hf, hlo⟩ := Cp.gt (d := ⟨xr, false⟩) C1 I1.out I2.out I3.out; have HO := hidden ho; have HN := hidden hf; have HLO := hidden (show ∀ b ∈ f, W.heap.size ≤ b from fun b hb => Nat.le_trans ((by repeat with_reducible first | exact Ext.refl _ | apply Ext.and | apply Ext.drewx | apply Ext.alloc | apply Ext.ext | apply Ext.drew | refine Ext.setCell ?_ (by simp) _) : Ext W _).size (hlo b hb)); clear C1 ho hf hlo)))); (all_goals (refine hQ' _ _ rfl ?_ ?_; (first | (focus (intro hbk; simp [brkB] at hbk; done)) | (focus (intro _; change Ext _ _; exact (by repeat with_reducible first | assumption | exact Ext.refl _ | apply Ext.and | apply Ext.drewx | apply Ext.alloc | apply Ext.ext | apply Ext.drew | refine Ext.setCell ?_ (by simp) _)))); clear hQ' Q'))))); (all_goals ((with_reducible refine wpSeqS_nil ?_)))))
  have HLO' := HLO.out
  subst hiA
  exact bodyPost_ret (v := .nilIface) (by simp [results, Tryz.results41, go_sem]) rfl ⟨rfl, hidden ⟨A ++ ⟨nd.b, ⟨xr, false⟩, f⟩ :: B', many, Ses.setGot (ys := [.int .i64 xr.r.f, .int .i64 xr.r.b, .slice e1 m1' d1', .int .i64 xr.like, .slice e2 m2' d2', .bool false]) (HW.out.ext (by repeat with_reducible first | exact Ext.refl _ | apply Ext.and | apply Ext.drewx | apply Ext.alloc | apply Ext.ext | apply Ext.drew | refine Ext.setCell ?_ (by simp) _)) rfl (Ow.later HO.out (by repeat with_reducible first | exact Ext.refl _ | apply Ext.and | apply Ext.drewx | apply Ext.alloc | apply Ext.ext | apply Ext.drew | refine Ext.setCell ?_ (by simp) _)) HN.out (fun b hb hm => by have h3 := HSZ.out b hm; have h4 := HLO' b hb; omega) (fun b hb => by have h4 := HLO' b hb; omega), by rw [HL.out]; exact set_map⟩, hidden (fun w0 h0 hb => Ext.setW (by show w0.heap.size ≤ nd.b; omega) [.int .i64 xr.r.f, .int .i64 xr.r.b, .slice e1 m1' d1', .int .i64 xr.like, .slice e2 m2' d2', .bool false] 0 (h0.trans (HE0.out.trans (by repeat with_reducible first | exact Ext.refl _ | apply Ext.and | apply Ext.drewx | apply Ext.alloc | apply Ext.ext | apply Ext.drew | refine Ext.setCell ?_ (by simp) _))))⟩

set_option maxRecDepth 20000 in
set_option maxHeartbeats 4000000 in
theorem iTell_new (s : Nat) (hs : Int) (many : Int) (N : Nat) (L : List Nd) (xr : Rt) (a1 : Option Addr) (n1 c1 : Nat) (a2 : Option Addr) (n2 c2 : Nat) (w : World) (h : Ses N w s hs true many L) (hr : ∀ n ∈ L, rok n.d.route.r.f n.d.route.r.b = true) (hx : rok xr.r.f xr.r.b = true) (ha : ascR (L.map Nd.d)) (hno : (L.map Nd.d).any (gotR xr.r) = false) (hm0 : 0 ≤ many) (hm6 : many < 6) (i1 : I64 xr.r.f) (i2 : I64 xr.r.b) (h1 : SlRd w a1 n1 c1 xr.path) (i3 : I64 xr.like) (h2 : SlRd w a2 n2 c2 xr.marks) (k1 : n1 ≤ 1000000000) (k2 : n2 ≤ 1000000000) :
    Calls Tryz.prog 41 #[.pointer (some ⟨s, 0, none⟩), .agg #[.int .i64 xr.r.f, .int .i64 xr.r.b, .slice a1 n1 c1, .int .i64 xr.like, .slice a2 n2 c2]] w fun e w' => e = .returned .nilIface ∧ Hid (∃ (L' : List Nd) (m' : Int), Ses N w' s hs true m' L' ∧ L'.map Nd.d = insR (gtR xr.r) ⟨xr, false⟩ (L.map Nd.d)) ∧ Hid (∀ w0, Ext w0 w → w0.heap.size ≤ N → Ext w0 w') := by
  have H := hidden h
  have HR := hidden hr
  have HX := hidden hx
  have HA := hidden ha
  have s1 := h.1.cell (j := 1) rfl
  have sl := h.1.lt
  have H1 := hidden h1
  have H2 := hidden h2
  have I1 := hidden i1
  have I2 := hidden i2
  have I3 := hidden i3
  clear i1 i2 i3 h1 h2
  have HNO := hidden hno
  have hm6' : (many == 6) = false := by simp; omega
  clear h hr hx ha hno
  go_enter Tryz.func41, Tryz.ntmps41
  go_upto_region 4 with (first | (first | ((go_at_call 79; (with_reducible refine (iSeek_any N s hs true _ L xr.r _ (H.out.ext (by repeat with_reducible first | exact Ext.refl _ | apply Ext.and | apply Ext.drewx | apply Ext.alloc | apply Ext.ext | apply Ext.drew | refine Ext.setCell ?_ (by simp) _)) HR.out HX.out).mono ?_); rintro _ _ ⟨A, rfl, HC, y1, rfl⟩))) | ((first | with_reducible refine wp_region_qe (by kernel_rfl) (by kernel_rfl) ?_ | with_reducible refine wp_region_q (by kernel_rfl) (by kernel_rfl) ?_); (repeat' (first | go_big_quiet_step (fail) | (refine wpQuiet_split rfl rfl rfl rfl (fun hsp => ?_) (fun hsp => ?_); ((fail_if_success (cases hsp; done)); simp only [hsp]; (try first | have hsq : _ < _ := of_decide_eq_true hsp | have hsq : _ ≤ _ := of_decide_eq_true hsp | have hsq : ¬ _ < _ := of_decide_eq_false hsp | have hsq : ¬ _ ≤ _ := of_decide_eq_false hsp)); rotate_left; ((fail_if_success (cases hsp; done)); simp only [hsp]; (try first | have hsq : _ < _ := of_decide_eq_true hsp | have hsq : _ ≤ _ := of_decide_eq_true hsp | have hsq : ¬ _ < _ := of_decide_eq_false hsp | have hsq : ¬ _ ≤ _ := of_decide_eq_false hsp))))); (all_goals (refine wpQuiet_nil ?_; intro x))) | ((first | with_reducible refine wp_region_seqSe (by kernel_rfl) (by kernel_rfl) ?_ | with_reducible refine wp_region_seqSw (by kernel_rfl) (by kernel_rfl) ?_); (repeat' (first | ((with_reducible refine wpSeqS_pure (by with_unfolding_all rfl) (fun Kq hKq => ?_)); (repeat' (first | go_big_quiet_step (fail) | (refine wpQuiet_split rfl rfl rfl rfl (fun hsp => ?_) (fun hsp => ?_); ((fail_if_success (cases hsp; done)); simp only [hsp]; (try first | have hsq : _ < _ := of_decide_eq_true hsp | have hsq : _ ≤ _ := of_decide_eq_true hsp | have hsq : ¬ _ < _ := of_decide_eq_false hsp | have hsq : ¬ _ ≤ _ := of_decide_eq_false hsp)); rotate_left; ((fail_if_success (cases hsp; done)); simp only [hsp]; (try first | have hsq : _ < _ := of_decide_eq_true hsp | have hsq : _ ≤ _ := of_decide_eq_true hsp | have hsq : ¬ _ < _ := of_decide_eq_false hsp | have hsq : ¬ _ ≤ _ := of_decide_eq_false hsp))))); (all_goals (refine wpQuiet_nil ?_; refine hKq _ ?_; clear hKq Kq))) | ((with_reducible refine wpSeqS_load (by with_unfolding_all rfl) (fun Kq hKq => ?_)); (repeat' (first | go_big_quiet_step (fail) | (refine wpQuiet_split rfl rfl rfl rfl (fun hsp => ?_) (fun hsp => ?_); ((fail_if_success (cases hsp; done)); simp only [hsp]; (try first | have hsq : _ < _ := of_decide_eq_true hsp | have hsq : _ ≤ _ := of_decide_eq_true hsp | have hsq : ¬ _ < _ := of_decide_eq_false hsp | have hsq : ¬ _ ≤ _ := of_decide_eq_false hsp)); rotate_left; ((fail_if_success (cases hsp; done)); simp only [hsp]; (try first | have hsq : _ < _ := of_decide_eq_true hsp | have hsq : _ ≤ _ := of_decide_eq_true hsp | have hsq : ¬ _ < _ := of_decide_eq_false hsp | have hsq : ¬ _ ≤ _ := of_decide_eq_false hsp))))); (all_goals (refine wpQuiet_nil ?_; refine hKq _ ?_; clear hKq Kq))) | ((with_reducible refine wpSeqS_act (by with_unfolding_all rfl) (fun Q' hQ' => ?_)); (go_wp2_with (first | ((go_at_call 79; (with_reducible refine (iSeek_any N s hs true _ L xr.r _ (H.out.ext (by repeat with_reducible first | exact Ext.refl _ | apply Ext.and | apply Ext.drewx | apply Ext.alloc | apply Ext.ext | apply Ext.drew | refine Ext.setCell ?_ (by simp) _)) HR.out HX.out).mono ?_); rintro _ _ ⟨A, rfl, HC, y1, rfl⟩)))); (all_goals (refine hQ' _ _ rfl ?_ ?_; (first | (focus (intro hbk; simp [brkB] at hbk; done)) | (focus (intro _; change Ext _ _; exact (by repeat with_reducible first | assumption | exact Ext.refl _ | apply Ext.and | apply Ext.drewx | apply Ext.alloc | apply Ext.ext | apply Ext.drew | refine Ext.setCell ?_ (by simp) _)))); clear hQ' Q'))))); (all_goals ((with_reducible refine wpSeqS_nil ?_)))))
  refine wp_name (fun W hW => ?_)
  have hE0 : Ext w W := by rw [hW]; exact (by repeat with_reducible first | exact Ext.refl _ | apply Ext.and | apply Ext.drewx | apply Ext.alloc | apply Ext.ext | apply Ext.drew | refine Ext.setCell ?_ (by simp) _)
  have HE0 := hidden hE0
  have BX := hidden (show Blk W w.heap.size 40 [.int .i64 xr.r.f, .int .i64 xr.r.b, .slice a1 n1 c1, .int .i64 xr.like, .slice a2 n2 c2] by rw [hW]; exact (Blk.newAt w #[_, _, _, _, _] _ (by simp)).extends (by repeat with_reducible first | exact Ext.refl _ | apply Ext.and | apply Ext.drewx | apply Ext.alloc | apply Ext.ext | apply Ext.drew | refine Ext.setCell ?_ (by simp) _))
  clear hW s1 sl
  obtain ⟨B, hL, hAA, hBB⟩ := HC.out
  have HL := hidden hL
  have hses := H.out.ext hE0
  have m3 := hses.1.cell (j := 3) rfl
  have ml := hses.1.lt
  clear hses
  have HW := hidden (show Ses N W s hs true many (A ++ B) by rw [← HL.out]; exact H.out.ext hE0)
  have hsz := HW.out.lt
  have HSZ := hidden hsz
  have hsN : N ≤ W.heap.size := by have h3 := HW.out.2.2.2.2 s (by simp); have h4 := hsz s (by simp); omega
  clear hsz
  obtain ⟨eb, eo, ee, ecs, he, hm, hbk, hcs⟩ := HW.out.lastBlk
  have hel := hbk.lt
  have hec := hbk.cell hcs
  have hef := hbk.frozen eo
  have hebN := HW.out.2.2.2.2 eb (mem_sapp hm)
  have x0 := BX.out.cell (j := 0) rfl
  have x1 := BX.out.cell (j := 1) rfl
  have x2 := BX.out.cell (j := 2) rfl
  have x3 := BX.out.cell (j := 3) rfl
  have x4 := BX.out.cell (j := 4) rfl
  have xl := BX.out.lt
  rw [he]
  have HE := hidden he
  have HM := hidden hm
  have HBK := hidden hbk
  have HCS := hidden hcs
  clear he hm hbk hcs
  rcases ses_split HL.out hAA hBB HA.out with ⟨n, B', rfl, e, hy, _⟩ | ⟨hne, _⟩
  · rw [HNO.out] at hy; cases hy
  have HINS := hidden (fun (b : Nat) (f : List Nat) => tell_list (b := b) (f := f) HL.out hAA hBB hne)
  clear hL hAA hBB HC
  obtain ⟨q, hq⟩ := hdv_ptr B
  have HQ := hidden hq
  clear hq
  have key : ∀ (f : List Nat) (y : Nx) (e1 : Option Addr) (m1' d1' : Nat) (e2 : Option Addr) (m2' d2' : Nat), Ow.own (ext W y) [.int .i64 xr.r.f, .int .i64 xr.r.b, .slice e1 m1' d1', .int .i64 xr.like, .slice e2 m2' d2', .bool false] (⟨xr, false⟩ : Gt) f → f.Nodup → (∀ b ∈ f, W.heap.size ≤ b) → Ses N (((ext W y).setCell ⟨eb, eo, none⟩ (.pointer (some ⟨W.heap.size + y.objs.size, 0, none⟩))).alloc (.cells #[.int .i64 xr.r.f, .int .i64 xr.r.b, .slice e1 m1' d1', .int .i64 xr.like, .slice e2 m2' d2', .bool false, .pointer q] 117)) s hs true many (A ++ ⟨W.heap.size + y.objs.size, ⟨xr, false⟩, f⟩ :: B) := fun f y e1 m1' d1' e2 m2' d2' ho hf hlo => by
    have hWy : (ext W y).heap.size = W.heap.size + y.objs.size := by simp
    rw [← World.setCell_alloc_past _ _ _ _ (by rw [hWy]; show eb < _; omega), ← HE.out]
    refine Ses.insert (n := ⟨W.heap.size + y.objs.size, ⟨xr, false⟩, f⟩) (ys := [.int .i64 xr.r.f, .int .i64 xr.r.b, .slice e1 m1' d1', .int .i64 xr.like, .slice e2 m2' d2', .bool false]) (HW.out.ext (by repeat with_reducible first | exact Ext.refl _ | apply Ext.and | apply Ext.drewx | apply Ext.alloc | apply Ext.ext | apply Ext.drew | refine Ext.setCell ?_ (by simp) _)) rfl ?_ (Ow.later ho (by repeat with_reducible first | exact Ext.refl _ | apply Ext.and | apply Ext.drewx | apply Ext.alloc | apply Ext.ext | apply Ext.drew | refine Ext.setCell ?_ (by simp) _)) hf (fun hb => by have h3 := Ow.lt ho _ hb; rw [hWy] at h3; exact absurd h3 (Nat.lt_irrefl _)) (fun b hb hm => ?_) (fun b hb => ?_)
    · rw [HQ.out]; exact Blk.newAt _ _ _ hWy
    · have h3 := HSZ.out b hm
      rcases List.mem_cons.1 hb with rfl | hb
      · have h3 : W.heap.size + y.objs.size < W.heap.size := h3
        omega
      · have := hlo b hb; omega
    · rcases List.mem_cons.1 hb with rfl | hb
      · show N ≤ W.heap.size + y.objs.size
        omega
      · have := hlo b hb; omega
  have KEY := hidden key
  clear key
  have hself : ∀ (o1 : Obj) (y : Nx) (v : Value), ((ext W y).alloc o1 |>.setCell ⟨eb, eo, none⟩ v).cell? ⟨eb, eo, none⟩ = some v := fun o1 y v => ((HBK.out.ext y).alloc o1).self HCS.out v
  cases B with
  | nil =>
    rw [show hdv [] nilp = .pointer none from rfl] at hec
    obtain rfl : q = none := by have h3 := HQ.out; simp [hdv, nilp] at h3; exact h3.symm
    go_upto_region 10 with (first | (first | ((go_at_call 61; (with_reducible refine (copyRoute_any _ _ _ _ _ _ xr.path _ _ _ xr.marks _ (H1.out.stays ((by repeat with_reducible first | assumption | exact Ext.refl _ | apply Ext.and | apply Ext.drewx | apply Ext.alloc | apply Ext.ext | apply Ext.drew | refine Ext.setCell ?_ (by simp) _) : Ext w _).below) (H2.out.stays ((by repeat with_reducible first | assumption | exact Ext.refl _ | apply Ext.and | apply Ext.drewx | apply Ext.alloc | apply Ext.ext | apply Ext.drew | refine Ext.setCell ?_ (by simp) _) : Ext w _).below) k1 k2).mono ?_); rintro _ _ ⟨e1, m1', d1', e2, m2', d2', rfl, C1, y2, rfl⟩; (try rw [ext_ext] at C1); obtain ⟨f, ho, hf, hlo⟩ := Cp.gt (d := ⟨xr, false⟩) C1 I1.out I2.out I3.out; have HO := hidden ho; have HN := hidden hf; have HLO := hidden (show ∀ b ∈ f, W.heap.size ≤ b from fun b hb => Nat.le_trans ((by repeat with_reducible first | exact Ext.refl _ | apply Ext.and | apply Ext.drewx | apply Ext.alloc | apply Ext.ext | apply Ext.drew | refine Ext.setCell ?_ (by simp) _) : Ext W _).size (hlo b hb)); clear C1 ho hf hlo))) | ((first | with_reducible refine wp_region_qe (by kernel_rfl) (by kernel_rfl) ?_ | with_reducible refine wp_region_q (by kernel_rfl) (by kernel_rfl) ?_); (repeat' (first | go_big_quiet_step (fail) | (refine wpQuiet_split rfl rfl rfl rfl (fun hsp => ?_) (fun hsp => ?_); ((fail_if_success (cases hsp; done)); simp only [hsp]; (try first | have hsq : _ < _ := of_decide_eq_true hsp | have hsq : _ ≤ _ := of_decide_eq_true hsp | have hsq : ¬ _ < _ := of_decide_eq_false hsp | have hsq : ¬ _ ≤ _ := of_decide_eq_false hsp)); rotate_left; ((fail_if_success (cases hsp; done)); simp only [hsp]; (try first | have hsq : _ < _ := of_decide_eq_true hsp | have hsq : _ ≤ _ := of_decide_eq_true hsp | have hsq : ¬ _ < _ := of_decide_eq_false hsp | have hsq : ¬ _ ≤ _ := of_decide_eq_false hsp))))); (all_goals (refine wpQuiet_nil ?_; intro x))) | ((first | with_reducible refine wp_region_seqSe (by kernel_rfl) (by kernel_rfl) ?_ | with_reducible refine wp_region_seqSw (by kernel_rfl) (by kernel_rfl) ?_); (repeat' (first | ((with_reducible refine wpSeqS_pure (by with_unfolding_all rfl) (fun Kq hKq => ?_)); (repeat' (first | go_big_quiet_step (fail) | (refine wpQuiet_split rfl rfl rfl rfl (fun hsp => ?_) (fun hsp => ?_); ((fail_if_success (cases hsp; done)); simp only [hsp]; (try first | have hsq : _ < _ := of_decide_eq_true hsp | have hsq : _ ≤ _ := of_decide_eq_true hsp | have hsq : ¬ _ < _ := of_decide_eq_false hsp | have hsq : ¬ _ ≤ _ := of_decide_eq_false hsp)); rotate_left; ((fail_if_success (cases hsp; done)); simp only [hsp]; (try first | have hsq : _ < _ := of_decide_eq_true hsp | have hsq : _ ≤ _ := of_decide_eq_true hsp | have hsq : ¬ _ < _ := of_decide_eq_false hsp | have hsq : ¬ _ ≤ _ := of_decide_eq_false hsp))))); (all_goals (refine wpQuiet_nil ?_; refine hKq _ ?_; clear hKq Kq))) | ((with_reducible refine wpSeqS_load (by with_unfolding_all rfl) (fun Kq hKq => ?_)); (repeat' (first | go_big_quiet_step (fail) | (refine wpQuiet_split rfl rfl rfl rfl (fun hsp => ?_) (fun hsp => ?_); ((fail_if_success (cases hsp; done)); simp only [hsp]; (try first | have hsq : _ < _ := of_decide_eq_true hsp | have hsq : _ ≤ _ := of_decide_eq_true hsp | have hsq : ¬ _ < _ := of_decide_eq_false hsp | have hsq : ¬ _ ≤ _ := of_decide_eq_false hsp)); rotate_left; ((fail_if_success (cases hsp; done)); simp only [hsp]; (try first | have hsq : _ < _ := of_decide_eq_true hsp | have hsq : _ ≤ _ := of_decide_eq_true hsp | have hsq : ¬ _ < _ := of_decide_eq_false hsp | have hsq : ¬ _ ≤ _ := of_decide_eq_false hsp))))); (all_goals (refine wpQuiet_nil ?_; refine hKq _ ?_; clear hKq Kq))) | ((with_reducible refine wpSeqS_act (by with_unfolding_all rfl) (fun Q' hQ' => ?_)); (go_wp2_with (first | ((go_at_call 61; (with_reducible refine (copyRoute_any _ _ _ _ _ _ xr.path _ _ _ xr.marks _ (H1.out.stays ((by repeat with_reducible first | assumption | exact Ext.refl _ | apply Ext.and | apply Ext.drewx | apply Ext.alloc | apply Ext.ext | apply Ext.drew | refine Ext.setCell ?_ (by simp) _) : Ext w _).below) (H2.out.stays ((by repeat with_reducible first | assumption | exact Ext.refl _ | apply Ext.and | apply Ext.drewx | apply Ext.alloc | apply Ext.ext | apply Ext.drew | refine Ext.setCell ?_ (by simp) _) : Ext w _).below) k1 k2).mono ?_); rintro _ _ ⟨e1, m1', d1', e2, m2', d2', rfl, C1, y2, rfl⟩; (try rw [ext_ext] at C1); obtain ⟨f, ho, hf, hlo⟩ := Cp.gt (d := ⟨xr, false⟩) C1 I1.out I2.out I3.out; have HO := hidden ho; have HN := hidden hf; have HLO := hidden (show ∀ b ∈ f, W.heap.size ≤ b from fun b hb => Nat.le_trans ((by repeat with_reducible first | exact Ext.refl _ | apply Ext.and | apply Ext.drewx | apply Ext.alloc | apply Ext.ext | apply Ext.drew | refine Ext.setCell ?_ (by simp) _) : Ext W _).size (hlo b hb)); clear C1 ho hf hlo)))); (all_goals (refine hQ' _ _ rfl ?_ ?_; (first | (focus (intro hbk; simp [brkB] at hbk; done)) | (focus (intro _; change Ext _ _; exact (by repeat with_reducible first | assumption | exact Ext.refl _ | apply Ext.and | apply Ext.drewx | apply Ext.alloc | apply Ext.ext | apply Ext.drew | refine Ext.setCell ?_ (by simp) _)))); clear hQ' Q'))))); (all_goals ((with_reducible refine wpSeqS_nil ?_)))))
    clear m3 ml hsN
    refine wp_name (fun V hV => ?_)
    have HV := hidden (show Ses N V s hs true many (A ++ ⟨W.heap.size + (x.drew.and y2).objs.size, ⟨xr, false⟩, f⟩ :: []) by rw [hV]; exact KEY.out f _ e1 m1' d1' e2 m2' d2' HO.out HN.out HLO.out)
    have HXV := hidden (show ∀ w0, Ext w0 w → w0.heap.size ≤ N → Ext w0 V from fun w0 h0 hb => by rw [hV]; exact Ext.alloc (Ext.setCell (h0.trans (HE0.out.trans (by repeat with_reducible first | exact Ext.refl _ | apply Ext.and | apply Ext.drewx | apply Ext.alloc | apply Ext.ext | apply Ext.drew | refine Ext.setCell ?_ (by simp) _))) (by show w0.heap.size ≤ eb; omega) _) _)
    clear hV
    have m3 := HV.out.1.cell (j := 3) rfl
    have ml := HV.out.1.lt
    have mf := HV.out.1.frozen 3
    have hsN := HV.out.2.2.2.2 s (by simp)
    go_wp2_with (first | ((first | with_reducible refine wp_region_qe (by kernel_rfl) (by kernel_rfl) ?_ | with_reducible refine wp_region_q (by kernel_rfl) (by kernel_rfl) ?_); (repeat' (first | go_big_quiet_step (fail) | (refine wpQuiet_split rfl rfl rfl rfl (fun hsp => ?_) (fun hsp => ?_); ((fail_if_success (cases hsp; done)); simp only [hsp]; (try first | have hsq : _ < _ := of_decide_eq_true hsp | have hsq : _ ≤ _ := of_decide_eq_true hsp | have hsq : ¬ _ < _ := of_decide_eq_false hsp | have hsq : ¬ _ ≤ _ := of_decide_eq_false hsp)); rotate_left; ((fail_if_success (cases hsp; done)); simp only [hsp]; (try first | have hsq : _ < _ := of_decide_eq_true hsp | have hsq : _ ≤ _ := of_decide_eq_true hsp | have hsq : ¬ _ < _ := of_decide_eq_false hsp | have hsq : ¬ _ ≤ _ := of_decide_eq_false hsp))))); (all_goals (refine wpQuiet_nil ?_; intro x))) | ((first | with_reducible refine wp_region_seqSe (by kernel_rfl) (by kernel_rfl) ?_ | with_reducible refine wp_region_seqSw (by kernel_rfl) (by kernel_rfl) ?_); (repeat' (first | ((with_reducible refine wpSeqS_pure (by with_unfolding_all rfl) (fun Kq hKq => ?_)); (repeat' (first | go_big_quiet_step (fail) | (refine wpQuiet_split rfl rfl rfl rfl (fun hsp => ?_) (fun hsp => ?_); ((fail_if_success (cases hsp; done)); simp only [hsp]; (try first | have hsq : _ < _ := of_decide_eq_true hsp | have hsq : _ ≤ _ := of_decide_eq_true hsp | have hsq : ¬ _ < _ := of_decide_eq_false hsp | have hsq : ¬ _ ≤ _ := of_decide_eq_false hsp)); rotate_left; ((fail_if_success (cases hsp; done)); simp only [hsp]; (try first | have hsq : _ < _ := of_decide_eq_true hsp | have hsq : _ ≤ _ := of_decide_eq_true hsp | have hsq : ¬ _ < _ := of_decide_eq_false hsp | have hsq : ¬ _ ≤ _ := of_decide_eq_false hsp))))); (all_goals (refine wpQuiet_nil ?_; refine hKq _ ?_; clear hKq Kq))) | ((with_reducible refine wpSeqS_load (by with_unfolding_all rfl) (fun Kq hKq => ?_)); (repeat' (first | go_big_quiet_step (fail) | (refine wpQuiet_split rfl rfl rfl rfl (fun hsp => ?_) (fun hsp => ?_); ((fail_if_success (cases hsp; done)); simp only [hsp]; (try first | have hsq : _ < _ := of_decide_eq_true hsp | have hsq : _ ≤ _ := of_decide_eq_true hsp | have hsq : ¬ _ < _ := of_decide_eq_false hsp | have hsq : ¬ _ ≤ _ := of_decide_eq_false hsp)); rotate_left; ((fail_if_success (cases hsp; done)); simp only [hsp]; (try first | have hsq : _ < _ := of_decide_eq_true hsp | have hsq : _ ≤ _ := of_decide_eq_true hsp | have hsq : ¬ _ < _ := of_decide_eq_false hsp | have hsq : ¬ _ ≤ _ := of_decide_eq_false hsp))))); (all_goals (refine wpQuiet_nil ?_; refine hKq _ ?_; clear hKq Kq))) | ((with_reducible refine wpSeqS_act (by with_unfolding_all rfl) (fun Q' hQ' => ?_)); (go_wp2_with fail); (all_goals (refine hQ' _ _ rfl ?_ ?_; (first | (focus (intro hbk; simp [brkB] at hbk; done)) | (focus (intro _; change Ext _ _; exact (by repeat with_reducible first | assumption | exact Ext.refl _ | apply Ext.and | apply Ext.drewx | apply Ext.alloc | apply Ext.ext | apply Ext.drew | refine Ext.setCell ?_ (by simp) _)))); clear hQ' Q'))))); (all_goals ((with_reducible refine wpSeqS_nil ?_)))))
    exact bodyPost_ret (v := .nilIface) (by simp [results, Tryz.results41, go_sem]) rfl ⟨rfl, hidden ⟨_, many + 1, HV.out.setMany _, HINS.out _ _⟩, hidden (fun w0 h0 hb => Ext.setCell (HXV.out w0 h0 hb) (by show w0.heap.size ≤ s; omega) _)⟩
  | cons nd B =>
    obtain ⟨ys, y1, y2, y3, _⟩ := HW.out.node
    obtain ⟨b1, m1, d1, b2, m2, d2, p1, p2, rfl, j1, j2, j3, j4, j5, hpf⟩ := y3
    have n0 := y2.cell (j := 0) rfl
    have n1 := y2.cell (j := 1) rfl
    have n2 := y2.cell (j := 2) rfl
    have n3 := y2.cell (j := 3) rfl
    have n4 := y2.cell (j := 4) rfl
    have n5 := y2.cell (j := 5) rfl
    have nl := y2.lt
    clear y1 y2 j1 j2 j3 j4 j5 hpf
    rw [show hdv (nd :: B) nilp = .pointer (some ⟨nd.b, 0, none⟩) from rfl] at hec
    have hnq := hne nd B rfl
    have heql : ∀ w', (binOp .eql 38 (.agg #[.int .i64 nd.d.route.r.f, .int .i64 nd.d.route.r.b]) (.agg #[.int .i64 xr.r.f, .int .i64 xr.r.b])).run Tryz.prog w' = .ok (.bool false) w' := fun w' => (eqS_Rg nd.d.route.r xr.r w').trans (by simp [hnq])
    clear hnq hne
    obtain rfl : q = some ⟨nd.b, 0, none⟩ := by have h3 := HQ.out; simp [hdv] at h3; exact h3.symm
    go_upto_region 10 with (first | (first | ((go_at_call 61; (with_reducible refine (copyRoute_any _ _ _ _ _ _ xr.path _ _ _ xr.marks _ (H1.out.stays ((by repeat with_reducible first | assumption | exact Ext.refl _ | apply Ext.and | apply Ext.drewx | apply Ext.alloc | apply Ext.ext | apply Ext.drew | refine Ext.setCell ?_ (by simp) _) : Ext w _).below) (H2.out.stays ((by repeat with_reducible first | assumption | exact Ext.refl _ | apply Ext.and | apply Ext.drewx | apply Ext.alloc | apply Ext.ext | apply Ext.drew | refine Ext.setCell ?_ (by simp) _) : Ext w _).below) k1 k2).mono ?_); rintro _ _ ⟨e1, m1', d1', e2, m2', d2', rfl, C1, y2, rfl⟩; (try rw [ext_ext] at C1); obtain ⟨f, ho, hf, hlo⟩ := Cp.gt (d := ⟨xr, false⟩) C1 I1.out I2.out I3.out; have HO := hidden ho; have HN := hidden hf; have HLO := hidden (show ∀ b ∈ f, W.heap.size ≤ b from fun b hb => Nat.le_trans ((by repeat with_reducible first | exact Ext.refl _ | apply Ext.and | apply Ext.drewx | apply Ext.alloc | apply Ext.ext | apply Ext.drew | refine Ext.setCell ?_ (by simp) _) : Ext W _).size (hlo b hb)); clear C1 ho hf hlo))) | ((first | with_reducible refine wp_region_qe (by kernel_rfl) (by kernel_rfl) ?_ | with_reducible refine wp_region_q (by kernel_rfl) (by kernel_rfl) ?_); (repeat' (first | go_big_quiet_step (fail) | (refine wpQuiet_split rfl rfl rfl rfl (fun hsp => ?_) (fun hsp => ?_); ((fail_if_success (cases hsp; done)); simp only [hsp]; (try first | have hsq : _ < _ := of_decide_eq_true hsp | have hsq : _ ≤ _ := of_decide_eq_true hsp | have hsq : ¬ _ < _ := of_decide_eq_false hsp | have hsq : ¬ _ ≤ _ := of_decide_eq_false hsp)); rotate_left; ((fail_if_success (cases hsp; done)); simp only [hsp]; (try first | have hsq : _ < _ := of_decide_eq_true hsp | have hsq : _ ≤ _ := of_decide_eq_true hsp | have hsq : ¬ _ < _ := of_decide_eq_false hsp | have hsq : ¬ _ ≤ _ := of_decide_eq_false hsp))))); (all_goals (refine wpQuiet_nil ?_; intro x))) | ((first | with_reducible refine wp_region_seqSe (by kernel_rfl) (by kernel_rfl) ?_ | with_reducible refine wp_region_seqSw (by kernel_rfl) (by kernel_rfl) ?_); (repeat' (first | ((with_reducible refine wpSeqS_pure (by with_unfolding_all rfl) (fun Kq hKq => ?_)); (repeat' (first | go_big_quiet_step (fail) | (refine wpQuiet_split rfl rfl rfl rfl (fun hsp => ?_) (fun hsp => ?_); ((fail_if_success (cases hsp; done)); simp only [hsp]; (try first | have hsq : _ < _ := of_decide_eq_true hsp | have hsq : _ ≤ _ := of_decide_eq_true hsp | have hsq : ¬ _ < _ := of_decide_eq_false hsp | have hsq : ¬ _ ≤ _ := of_decide_eq_false hsp)); rotate_left; ((fail_if_success (cases hsp; done)); simp only [hsp]; (try first | have hsq : _ < _ := of_decide_eq_true hsp | have hsq : _ ≤ _ := of_decide_eq_true hsp | have hsq : ¬ _ < _ := of_decide_eq_false hsp | have hsq : ¬ _ ≤ _ := of_decide_eq_false hsp))))); (all_goals (refine wpQuiet_nil ?_; refine hKq _ ?_; clear hKq Kq))) | ((with_reducible refine wpSeqS_load (by with_unfolding_all rfl) (fun Kq hKq => ?_)); (repeat' (first | go_big_quiet_step (fail) | (refine wpQuiet_split rfl rfl rfl rfl (fun hsp => ?_) (fun hsp => ?_); ((fail_if_success (cases hsp; done)); simp only [hsp]; (try first | have hsq : _ < _ := of_decide_eq_true hsp | have hsq : _ ≤ _ := of_decide_eq_true hsp | have hsq : ¬ _ < _ := of_decide_eq_false hsp | have hsq : ¬ _ ≤ _ := of_decide_eq_false hsp)); rotate_left; ((fail_if_success (cases hsp; done)); simp only [hsp]; (try first | have hsq : _ < _ := of_decide_eq_true hsp | have hsq : _ ≤ _ := of_decide_eq_true hsp | have hsq : ¬ _ < _ := of_decide_eq_false hsp | have hsq : ¬ _ ≤ _ := of_decide_eq_false hsp))))); (all_goals (refine wpQuiet_nil ?_; refine hKq _ ?_; clear hKq Kq))) | ((with_reducible refine wpSeqS_act (by with_unfolding_all rfl) (fun Q' hQ' => ?_)); (go_wp2_with (first | ((go_at_call 61; (with_reducible refine (copyRoute_any _ _ _ _ _ _ xr.path _ _ _ xr.marks _ (H1.out.stays ((by repeat with_reducible first | assumption | exact Ext.refl _ | apply Ext.and | apply Ext.drewx | apply Ext.alloc | apply Ext.ext | apply Ext.drew | refine Ext.setCell ?_ (by simp) _) : Ext w _).below) (H2.out.stays ((by repeat with_reducible first | assumption | exact Ext.refl _ | apply Ext.and | apply Ext.drewx | apply Ext.alloc | apply Ext.ext | apply Ext.drew | refine Ext.setCell ?_ (by simp) _) : Ext w _).below) k1 k2).mono ?_); rintro _ _ ⟨e1, m1', d1', e2, m2', d2', rfl, C1, y2, rfl⟩; (try rw [ext_ext] at C1); obtain ⟨f, ho, hf, hlo⟩ := Cp.gt (d := ⟨xr, false⟩) C1 I1.out I2.out I3.out; have HO := hidden ho; have HN := hidden hf; have HLO := hidden (show ∀ b ∈ f, W.heap.size ≤ b from fun b hb => Nat.le_trans ((by repeat with_reducible first | exact Ext.refl _ | apply Ext.and | apply Ext.drewx | apply Ext.alloc | apply Ext.ext | apply Ext.drew | refine Ext.setCell ?_ (by simp) _) : Ext W _).size (hlo b hb)); clear C1 ho hf hlo)))); (all_goals (refine hQ' _ _ rfl ?_ ?_; (first | (focus (intro hbk; simp [brkB] at hbk; done)) | (focus (intro _; change Ext _ _; exact (by repeat with_reducible first | assumption | exact Ext.refl _ | apply Ext.and | apply Ext.drewx | apply Ext.alloc | apply Ext.ext | apply Ext.drew | refine Ext.setCell ?_ (by simp) _)))); clear hQ' Q'))))); (all_goals ((with_reducible refine wpSeqS_nil ?_)))))
    clear m3 ml hsN
    refine wp_name (fun V hV => ?_)
    have HV := hidden (show Ses N V s hs true many (A ++ ⟨W.heap.size + (x.drew.and y2).objs.size, ⟨xr, false⟩, f⟩ :: nd :: B) by rw [hV]; exact KEY.out f _ e1 m1' d1' e2 m2' d2' HO.out HN.out HLO.out)
    have HXV := hidden (show ∀ w0, Ext w0 w → w0.heap.size ≤ N → Ext w0 V from fun w0 h0 hb => by rw [hV]; exact Ext.alloc (Ext.setCell (h0.trans (HE0.out.trans (by repeat with_reducible first | exact Ext.refl _ | apply Ext.and | apply Ext.drewx | apply Ext.alloc | apply Ext.ext | apply Ext.drew | refine Ext.setCell ?_ (by simp) _))) (by show w0.heap.size ≤ eb; omega) _) _)
    clear hV
    have m3 := HV.out.1.cell (j := 3) rfl
    have ml := HV.out.1.lt
    have mf := HV.out.1.frozen 3
    have hsN := HV.out.2.2.2.2 s (by simp)
    go_wp2_with (first | ((first | with_reducible refine wp_region_qe (by kernel_rfl) (by kernel_rfl) ?_ | with_reducible refine wp_region_q (by kernel_rfl) (by kernel_rfl) ?_); (repeat' (first | go_big_quiet_step (fail) | (refine wpQuiet_split rfl rfl rfl rfl (fun hsp => ?_) (fun hsp => ?_); ((fail_if_success (cases hsp; done)); simp only [hsp]; (try first | have hsq : _ < _ := of_decide_eq_true hsp | have hsq : _ ≤ _ := of_decide_eq_true hsp | have hsq : ¬ _ < _ := of_decide_eq_false hsp | have hsq : ¬ _ ≤ _ := of_decide_eq_false hsp)); rotate_left; ((fail_if_success (cases hsp; done)); simp only [hsp]; (try first | have hsq : _ < _ := of_decide_eq_true hsp | have hsq : _ ≤ _ := of_decide_eq_true hsp | have hsq : ¬ _ < _ := of_decide_eq_false hsp | have hsq : ¬ _ ≤ _ := of_decide_eq_false hsp))))); (all_goals (refine wpQuiet_nil ?_; intro x))) | ((first | with_reducible refine wp_region_seqSe (by kernel_rfl) (by kernel_rfl) ?_ | with_reducible refine wp_region_seqSw (by kernel_rfl) (by kernel_rfl) ?_); (repeat' (first | ((with_reducible refine wpSeqS_pure (by with_unfolding_all rfl) (fun Kq hKq => ?_)); (repeat' (first | go_big_quiet_step (fail) | (refine wpQuiet_split rfl rfl rfl rfl (fun hsp => ?_) (fun hsp => ?_); ((fail_if_success (cases hsp; done)); simp only [hsp]; (try first | have hsq : _ < _ := of_decide_eq_true hsp | have hsq : _ ≤ _ := of_decide_eq_true hsp | have hsq : ¬ _ < _ := of_decide_eq_false hsp | have hsq : ¬ _ ≤ _ := of_decide_eq_false hsp)); rotate_left; ((fail_if_success (cases hsp; done)); simp only [hsp]; (try first | have hsq : _ < _ := of_decide_eq_true hsp | have hsq : _ ≤ _ := of_decide_eq_true hsp | have hsq : ¬ _ < _ := of_decide_eq_false hsp | have hsq : ¬ _ ≤ _ := of_decide_eq_false hsp))))); (all_goals (refine wpQuiet_nil ?_; refine hKq _ ?_; clear hKq Kq))) | ((with_reducible refine wpSeqS_load (by with_unfolding_all rfl) (fun Kq hKq => ?_)); (repeat' (first | go_big_quiet_step (fail) | (refine wpQuiet_split rfl rfl rfl rfl (fun hsp => ?_) (fun hsp => ?_); ((fail_if_success (cases hsp; done)); simp only [hsp]; (try first | have hsq : _ < _ := of_decide_eq_true hsp | have hsq : _ ≤ _ := of_decide_eq_true hsp | have hsq : ¬ _ < _ := of_decide_eq_false hsp | have hsq : ¬ _ ≤ _ := of_decide_eq_false hsp)); rotate_left; ((fail_if_success (cases hsp; done)); simp only [hsp]; (try first | have hsq : _ < _ := of_decide_eq_true hsp | have hsq : _ ≤ _ := of_decide_eq_true hsp | have hsq : ¬ _ < _ := of_decide_eq_false hsp | have hsq : ¬ _ ≤ _ := of_decide_eq_false hsp))))); (all_goals (refine wpQuiet_nil ?_; refine hKq _ ?_; clear hKq Kq))) | ((with_reducible refine wpSeqS_act (by with_unfolding_all rfl) (fun Q' hQ' => ?_)); (go_wp2_with fail); (all_goals (refine hQ' _ _ rfl ?_ ?_; (first | (focus (intro hbk; simp [brkB] at hbk; done)) | (focus (intro _; change Ext _ _; exact (by repeat with_reducible first | assumption | exact Ext.refl _ | apply Ext.and | apply Ext.drewx | apply Ext.alloc | apply Ext.ext | apply Ext.drew | refine Ext.setCell ?_ (by simp) _)))); clear hQ' Q'))))); (all_goals ((with_reducible refine wpSeqS_nil ?_)))))
    exact bodyPost_ret (v := .nilIface) (by simp [results, Tryz.results41, go_sem]) rfl ⟨rfl, hidden ⟨_, many + 1, HV.out.setMany _, HINS.out _ _⟩, hidden (fun w0 h0 hb => Ext.setCell (HXV.out w0 h0 hb) (by show w0.heap.size ≤ s; omega) _)⟩

end Go.Proofs.YtlehcnfmagjilaaGreatDoor
