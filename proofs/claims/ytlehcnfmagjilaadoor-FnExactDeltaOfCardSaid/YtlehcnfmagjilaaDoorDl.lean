/- From one route list to another one: what lies in memory on the way, and the helpers. No condition. -/
import Derived.Test.YtlehcnfmagjilaaDoorDlP
import Derived.Test.YtlehcnfmagjilaaDoorRmk
import Derived.Test.YtlehcnfmagjilaaDoorTdropE
import Derived.Test.YtlehcnfmagjilaaDoorFloat
namespace Go.Proofs.YtlehcnfmagjilaaDoor
open Go Go.RowKit

section
variable {α : Type} [Lay α] [Ow α] {N M : Nat} {e : TypeId} {w w' : World} {v : Value} {l : List α} {fps : List (List Nat)}
theorem AccF.toO [FlO α] (h : AccF N e w v l) : AccO N e w v l (l.map fun _ => []) := by
  obtain ⟨xs, h1, h2⟩ := h
  have hz : (l.map fun _ => ([] : List Nat)).flatten = [] := by simp
  refine ⟨xs, h1, ⟨h2.1, by simp, fun i d f hd hf => ?_⟩, by rw [hz]; simp, by rw [hz]; simp⟩
  obtain ⟨ys, z1, z2, z3⟩ := h2.2 i d hd
  obtain rfl : f = [] := by
    rw [List.getElem?_map, hd] at hf; exact (Option.some.inj hf).symm
  exact ⟨ys, z1, z2, FlO.own z3⟩
theorem AccO.toF (h : AccO N e w v l fps) : AccF N e w v l := by
  obtain ⟨xs, h1, h2, _⟩ := h
  exact ⟨xs, h1, h2.rd⟩
theorem AccO.owns [OneC α] {a : Option Addr} {n c : Nat} (h : AccO N e w (.slice a n c) l fps) : ∃ fp, OwSl w a n c l fp ∧ fp.Nodup ∧ ∀ b ∈ fp, (Value.slice a n c).ownBlock = some b ∨ b ∈ fps.flatten := by
  obtain ⟨xs, h1, h2, h3, h4⟩ := h
  obtain ⟨a', cap, e1, hlc, hcm, ha, _⟩ := ownsRow_shape h1
  simp only [Value.slice.injEq] at e1
  obtain ⟨rfl, rfl, rfl⟩ := e1
  rcases Nat.eq_zero_or_pos l.length with h0 | h0
  · obtain rfl := List.eq_nil_of_length_eq_zero h0
    exact ⟨[], ⟨rfl, hlc, hcm, ha, .inl ⟨rfl, rfl⟩⟩, by simp, by simp⟩
  · obtain ⟨g, cur, rfl, hb, hl, ht⟩ := ownsRow_cur h1 h0
    refine ⟨g :: fps.flatten, ⟨rfl, hlc, hcm, (fun h => by cases h), .inr ⟨g, e, cur, fps, rfl, hb, hl, h2.2.1, rfl, fun i d f hd hf => ?_⟩⟩, ?_, ?_⟩
    · obtain ⟨ys, z1, z2, z3⟩ := h2.2.2 i d f hd hf
      refine ⟨ys, z1, fun t u hu => ?_, z3⟩
      have := z2 t u hu
      rw [← ht, List.getElem?_take] at this
      split at this
      · exact this
      · cases this
    · exact List.nodup_cons.2 ⟨fun hg => h4 g hg rfl, h3⟩
    · intro b hb
      rcases List.mem_cons.1 hb with rfl | hb
      · exact .inl rfl
      · exact .inr hb
end

/-- The two lists of an update that grows, apart from each other and from block X. -/
def DS (N X : Nat) (w : World) (v1 v2 : Value) (L1 : List Rg) (L2 : List Rt) : Prop :=
  AccF N 36 w v1 L1 ∧ (∀ b, v1.ownBlock = some b → b ≠ X) ∧ ∃ fps, AccO N 55 w v2 L2 fps ∧ (∀ b, v2.ownBlock = some b → b ≠ X) ∧ (∀ b ∈ fps.flatten, N ≤ b ∧ b ≠ X) ∧ ∀ g, v1.ownBlock = some g → v2.ownBlock ≠ some g ∧ g ∉ fps.flatten
section
variable {N X : Nat} {w w' w0 : World} {v1 v2 v : Value} {L1 : List Rg} {L2 : List Rt}
theorem DS.ext (h : DS N X w v1 v2 L1 L2) (k : Ext w w') : DS N X w' v1 v2 L1 L2 := by
  obtain ⟨h1, h2, fps, h3, h4⟩ := h
  exact ⟨h1.ext k, h2, fps, h3.ext k, h4⟩
theorem DS.setX (h : DS N X w v1 v2 L1 L2) (o : Nat) (u : Value) : DS N X (w.setCell ⟨X, o, none⟩ u) v1 v2 L1 L2 := by
  obtain ⟨h1, h2, fps, h3, h4, h5, h6⟩ := h
  exact ⟨h1.setNe (fun e => h2 _ e rfl) u, h2, fps, h3.setNe (fun e => h4 _ e rfl) (fun hm => (h5 _ hm).2 rfl) u, h4, h5, h6⟩
theorem DS.setLow (h : DS N X w v1 v2 L1 L2) {B : Nat} (hB : B < N) (o : Nat) (u : Value) : DS N X (w.setCell ⟨B, o, none⟩ u) v1 v2 L1 L2 := by
  obtain ⟨h1, h2, fps, h3, h4, h5, h6⟩ := h
  exact ⟨h1.setNe (fun e => by have := (h1.low _ e).1; omega) u, h2, fps, h3.setNe (fun e => by have := (h3.low _ e).1; omega) (fun hm => by have := (h5 _ hm).1; omega) u, h4, h5, h6⟩
theorem DS.base {M : Nat} (h : DS N X w v1 v2 L1 L2) (hM : M ≤ N) : DS M X w v1 v2 L1 L2 := by
  obtain ⟨h1, h2, fps, h3, h4, h5, h6⟩ := h
  exact ⟨h1.base hM, h2, fps, h3.base hM, h4, fun b hb => ⟨Nat.le_trans hM (h5 b hb).1, (h5 b hb).2⟩, h6⟩
theorem DS.lt1 (h : DS N X w v1 v2 L1 L2) : ∀ b, v1.ownBlock = some b → N ≤ b ∧ b < w.heap.size := h.1.low
theorem DS.lt2 (h : DS N X w v1 v2 L1 L2) : ∀ b, v2.ownBlock = some b → N ≤ b ∧ b < w.heap.size := by
  obtain ⟨h1, h2, fps, h3, _⟩ := h
  exact h3.low
theorem DS.shape1 (h : DS N X w v1 v2 L1 L2) : ∃ a n c, v1 = .slice a n c := h.1.shapeL
theorem DS.shape2 (h : DS N X w v1 v2 L1 L2) : ∃ a n c, v2 = .slice a n c := by
  obtain ⟨h1, h2, fps, h3, _⟩ := h
  exact h3.shapeL
theorem DS.push1 {d : Rg} {fqs : List (List Nat)} (h : DS N X w v1 v2 L1 L2) (hX : X < w.heap.size) (hA : AccO N 36 w' v (L1 ++ [d]) fqs) (hg : w.grownBy w' v1.ownBlock) (hv : v.ownBlock = v1.ownBlock ∨ v.ownBlock = some w.heap.size) : DS N X w' v v2 (L1 ++ [d]) L2 := by
  obtain ⟨h1, h2, fps, h3, h4, h5, h6⟩ := h
  refine ⟨hA.toF, fun b hb => ?_, fps, h3.kept hg h6, h4, h5, fun g hg' => ?_⟩
  · rcases hv with e | e
    · exact h2 b (e ▸ hb)
    · rw [e] at hb; have := Option.some.inj hb; omega
  · rcases hv with e | e
    · exact h6 g (e ▸ hg')
    · rw [e] at hg'
      have hgw := Option.some.inj hg'
      exact ⟨fun e2 => by have := (h3.low g e2).2; omega, fun hm => by have := h3.fresh_lt g hm; omega⟩
theorem DS.push2 {d : Rt} {f : List Nat} {fps : List (List Nat)} (h1 : AccF N 36 w v1 L1) (h2 : ∀ b, v1.ownBlock = some b → b ≠ X) (_h3 : AccO N 55 w v2 L2 fps) (h4 : ∀ b, v2.ownBlock = some b → b ≠ X) (h5 : ∀ b ∈ fps.flatten, N ≤ b ∧ b ≠ X) (h6 : ∀ g, v1.ownBlock = some g → v2.ownBlock ≠ some g ∧ g ∉ fps.flatten)
    (hX : X < w.heap.size) (hA : AccO N 55 w' v (L2 ++ [d]) (fps ++ [f])) (hg : w.grownBy w' v2.ownBlock) (hv : v.ownBlock = v2.ownBlock ∨ v.ownBlock = some w.heap.size) (hf : ∀ b ∈ f, N ≤ b ∧ b ≠ X ∧ v1.ownBlock ≠ some b) : DS N X w' v1 v (L1) (L2 ++ [d]) := by
  refine ⟨h1.kept hg (fun b e e2 => (h6 b e2).1 e), h2, fps ++ [f], hA, fun b hb => ?_, fun b hb => ?_, fun g hg' => ⟨fun e => ?_, fun hm => ?_⟩⟩
  · rcases hv with e | e
    · exact h4 b (e ▸ hb)
    · rw [e] at hb; have := Option.some.inj hb; omega
  · rw [flatten_snoc] at hb
    rcases List.mem_append.1 hb with hb | hb
    · exact h5 b hb
    · exact ⟨(hf b hb).1, (hf b hb).2.1⟩
  · rcases hv with e' | e'
    · exact (h6 g hg').1 (e' ▸ e)
    · rw [e'] at e; have := Option.some.inj e; have := (h1.low g hg').2; omega
  · rw [flatten_snoc] at hm
    rcases List.mem_append.1 hm with hm | hm
    · exact (h6 g hg').2 hm
    · exact (hf g hm).2.2 hg'
theorem DS.fin {a1 a2 : Option Addr} {n1 c1 n2 c2 : Nat} {d : Dl} (h : DS N X w (.slice a1 n1 c1) (.slice a2 n2 c2) d.drop d.tell) (hE : Ext w0 w) (hN : w0.heap.size ≤ N) : ∃ x, w = Go.Proofs.YtlehcnfmagjilaaDoor.ext w0 x ∧ Hid (Fresh w0 (Go.Proofs.YtlehcnfmagjilaaDoor.ext w0 x) [.slice a1 n1 c1, .slice a2 n2 c2] d) := by
  obtain ⟨h1, h2, fps, h3, h4, h5, h6⟩ := h
  obtain ⟨fp1, o1, nd1, b1⟩ := h1.toO.owns
  obtain ⟨fp2, o2, nd2, b2⟩ := h3.owns
  have b1' : ∀ b ∈ fp1, (Value.slice a1 n1 c1).ownBlock = some b := fun b hb => by
    rcases b1 b hb with e | e
    · exact e
    · have hz : (d.drop.map fun _ => ([] : List Nat)).flatten = [] := by simp
      rw [hz] at e
      cases e
  have hl1 : ∀ b ∈ fp1, w0.heap.size ≤ b := fun b hb => Nat.le_trans hN (h1.low b (b1' b hb)).1
  have hl2 : ∀ b ∈ fp2, w0.heap.size ≤ b := fun b hb => by
    rcases b2 b hb with e | e
    · exact Nat.le_trans hN (h3.low b e).1
    · exact Nat.le_trans hN (h5 b e).1
  have hfr : Fresh w0 w [.slice a1 n1 c1, .slice a2 n2 c2] d := by
    refine ⟨hE, fp1 ++ fp2, ⟨_, _, _, _, _, _, fp1, fp2, rfl, o1, o2, rfl⟩, ?_, fun b hb => ?_⟩
    · refine List.nodup_append.2 ⟨nd1, nd2, fun x hx y hy e => ?_⟩
      subst e
      rcases b2 x hy with e | e
      · exact (h6 x (b1' x hx)).1 e
      · exact (h6 x (b1' x hx)).2 e
    · rcases List.mem_append.1 hb with hb | hb
      · exact hl1 b hb
      · exact hl2 b hb
  obtain ⟨x, rfl⟩ := hE
  exact ⟨x, rfl, hfr⟩
end

set_option maxHeartbeats 2000000 in
theorem l23At_any (a : Option Addr) (len cap : Nat) (t : List Rt) (r : Rg) (w : World) (h : SlRd w a len cap t) :
    Calls Tryd.prog 28 #[.slice a len cap, .agg #[.int .i64 r.f, .int .i64 r.b]] w fun e w' => e = .returned (.int .i64 (findI (rtR r) t)) ∧ Ext w w' := by
  have hm := h.2.2.1
  have hlc := h.2.1
  have HL := hidden h.1
  unfold maxLen at hm
  go_enter Tryd.func28, Tryd.ntmps28
  go_wp2_with fail
  obtain ⟨W, hW⟩ : ∃ W, W = w.alloc (.cells #[.int .i64 r.f, .int .i64 r.b] 36) := ⟨_, rfl⟩
  have hE0 : Ext w W := by rw [hW]; exact (by repeat (first | with_reducible exact Ext.refl _ | with_reducible apply Ext.and | with_reducible apply Ext.drewx | with_reducible apply Ext.alloc | with_reducible apply Ext.ext | with_reducible apply Ext.drew | with_reducible refine Ext.setCell ?_ (by simp) _))
  have x0 : W.cell? ⟨w.heap.size, 0, none⟩ = some (.int .i64 r.f) := by rw [hW]; go_simp
  have x1 : W.cell? ⟨w.heap.size, 1, none⟩ = some (.int .i64 r.b) := by rw [hW]; go_simp
  rw [← hW]
  clear hW
  go_loopw [5] (fun i wr => ∃ k : Nat, k ≤ len ∧ i = .int .i64 k ∧ Ext W wr ∧ Hid ((t.take k).any (rtR r) = false)) (fun i _ => len - (intOf i).toNat)
  case atStart => exact ⟨0, Nat.zero_le _, rfl, Ext.refl _, rfl⟩
  case round =>
    obtain ⟨k, hk, rfl, hE1, HT⟩ := hrel
    have hE := hE0.trans hE1
    have y0 := (hE1.below.cell (p := ⟨w.heap.size, 0, none⟩) (cell_lt x0)).trans x0
    have y1 := (hE1.below.cell (p := ⟨w.heap.size, 1, none⟩) (cell_lt x1)).trans x1
    have ly := cell_lt y0
    clear x0 x1
    by_cases hlt : k < len
    · obtain ⟨d, dhd, db, doff, dys, rfl, dhys, dhcell, dhrd⟩ := h.at hE hlt
      obtain ⟨da_path, dn_path, dc_path, da_marks, dn_marks, dc_marks, rfl, dg0, dg1, dg2, dg3, dg4⟩ := dhrd
      have dc0 : wr.cell? ⟨db, doff + k * 5, none⟩ = some _ := dhcell 0 _ rfl
      have dc1 : wr.cell? ⟨db, doff + k * 5 + 1, none⟩ = some _ := dhcell 1 _ rfl
      have dc2 : wr.cell? ⟨db, doff + k * 5 + 2, none⟩ = some _ := dhcell 2 _ rfl
      have dc3 : wr.cell? ⟨db, doff + k * 5 + 3, none⟩ = some _ := dhcell 3 _ rfl
      have dc4 : wr.cell? ⟨db, doff + k * 5 + 4, none⟩ = some _ := dhcell 4 _ rfl
      have dlb := cell_lt dc0
      have dHD := hidden dhd
      clear dhcell dhys dhd
      by_cases hq : d.r = r
      · have HQ := hidden hq
        have hne : ∀ w', (binOp .eql 36 (.agg #[.int .i64 d.r.f, .int .i64 d.r.b]) (.agg #[.int .i64 r.f, .int .i64 r.b])).run Tryd.prog w' = .ok (.bool true) w' := fun w' => (eqS_Rg d.r r w').trans (by rw [HQ.out]; simp)
        clear hq
        go_wp2_with (first | ((first | with_reducible refine wp_region_qe (by kernel_rfl) (by kernel_rfl) ?_ | with_reducible refine wp_region_q (by kernel_rfl) (by kernel_rfl) ?_); (repeat' (first | go_big_quiet_step (fail) | (refine wpQuiet_split rfl rfl rfl rfl (fun hsp => ?_) (fun hsp => ?_); ((fail_if_success (cases hsp; done)); simp only [hsp]; (try first | have hsq : _ < _ := of_decide_eq_true hsp | have hsq : _ ≤ _ := of_decide_eq_true hsp | have hsq : ¬ _ < _ := of_decide_eq_false hsp | have hsq : ¬ _ ≤ _ := of_decide_eq_false hsp)); rotate_left; ((fail_if_success (cases hsp; done)); simp only [hsp]; (try first | have hsq : _ < _ := of_decide_eq_true hsp | have hsq : _ ≤ _ := of_decide_eq_true hsp | have hsq : ¬ _ < _ := of_decide_eq_false hsp | have hsq : ¬ _ ≤ _ := of_decide_eq_false hsp))))); (all_goals (refine wpQuiet_nil ?_; intro x))))
        go_ret
        exact ⟨ret_int (findI_at HT.out dHD.out (by simp [rtR, HQ.out])).symm, (by first | exact hE | exact hE.ext _ | exact hE.trans (by repeat (first | with_reducible exact Ext.refl _ | with_reducible apply Ext.and | with_reducible apply Ext.drewx | with_reducible apply Ext.alloc | with_reducible apply Ext.ext | with_reducible apply Ext.drew | with_reducible refine Ext.setCell ?_ (by simp) _)))⟩
      · have HQ := hidden hq
        have hne : ∀ w', (binOp .eql 36 (.agg #[.int .i64 d.r.f, .int .i64 d.r.b]) (.agg #[.int .i64 r.f, .int .i64 r.b])).run Tryd.prog w' = .ok (.bool false) w' := fun w' => (eqS_Rg d.r r w').trans (by simp [HQ.out])
        clear hq
        go_wp2_with (first | ((first | with_reducible refine wp_region_qe (by kernel_rfl) (by kernel_rfl) ?_ | with_reducible refine wp_region_q (by kernel_rfl) (by kernel_rfl) ?_); (repeat' (first | go_big_quiet_step (fail) | (refine wpQuiet_split rfl rfl rfl rfl (fun hsp => ?_) (fun hsp => ?_); ((fail_if_success (cases hsp; done)); simp only [hsp]; (try first | have hsq : _ < _ := of_decide_eq_true hsp | have hsq : _ ≤ _ := of_decide_eq_true hsp | have hsq : ¬ _ < _ := of_decide_eq_false hsp | have hsq : ¬ _ ≤ _ := of_decide_eq_false hsp)); rotate_left; ((fail_if_success (cases hsp; done)); simp only [hsp]; (try first | have hsq : _ < _ := of_decide_eq_true hsp | have hsq : _ ≤ _ := of_decide_eq_true hsp | have hsq : ¬ _ < _ := of_decide_eq_false hsp | have hsq : ¬ _ ≤ _ := of_decide_eq_false hsp))))); (all_goals (refine wpQuiet_nil ?_; intro x))))
        go_roundw
        case rel => exact ⟨k + 1, by omega, by go_num, hE1.trans (by repeat (first | with_reducible exact Ext.refl _ | with_reducible apply Ext.and | with_reducible apply Ext.drewx | with_reducible apply Ext.alloc | with_reducible apply Ext.ext | with_reducible apply Ext.drew | with_reducible refine Ext.setCell ?_ (by simp) _)), any_succ HT.out dHD.out (by simp [rtR, HQ.out])⟩
        case measure => simp [intOf]; omega
    · obtain rfl : k = len := by omega
      go_wp2_with (first | ((first | with_reducible refine wp_region_qe (by kernel_rfl) (by kernel_rfl) ?_ | with_reducible refine wp_region_q (by kernel_rfl) (by kernel_rfl) ?_); (repeat' (first | go_big_quiet_step (fail) | (refine wpQuiet_split rfl rfl rfl rfl (fun hsp => ?_) (fun hsp => ?_); ((fail_if_success (cases hsp; done)); simp only [hsp]; (try first | have hsq : _ < _ := of_decide_eq_true hsp | have hsq : _ ≤ _ := of_decide_eq_true hsp | have hsq : ¬ _ < _ := of_decide_eq_false hsp | have hsq : ¬ _ ≤ _ := of_decide_eq_false hsp)); rotate_left; ((fail_if_success (cases hsp; done)); simp only [hsp]; (try first | have hsq : _ < _ := of_decide_eq_true hsp | have hsq : _ ≤ _ := of_decide_eq_true hsp | have hsq : ¬ _ < _ := of_decide_eq_false hsp | have hsq : ¬ _ ≤ _ := of_decide_eq_false hsp))))); (all_goals (refine wpQuiet_nil ?_; intro x))))
      go_ret
      exact ⟨ret_int (by have := HT.out; rw [List.take_of_length_le (Nat.le_of_eq HL.out)] at this; exact (findI_no this).symm), (by first | exact hE | exact hE.ext _ | exact hE.trans (by repeat (first | with_reducible exact Ext.refl _ | with_reducible apply Ext.and | with_reducible apply Ext.drewx | with_reducible apply Ext.alloc | with_reducible apply Ext.ext | with_reducible apply Ext.drew | with_reducible refine Ext.setCell ?_ (by simp) _)))⟩

set_option maxHeartbeats 400000 in
theorem spotFn_any (d : Rt) (r : Rg) (a1 : Option Addr) (n1 c1 : Nat) (a2 : Option Addr) (n2 c2 : Nat) (w : World) (h : rok d.r.f d.r.b = true) (h' : rok r.f r.b = true) :
    Calls Tryd.prog 62 #[.agg #[.int .i64 d.r.f, .int .i64 d.r.b, .slice a1 n1 c1, .int .i64 d.like, .slice a2 n2 c2], .agg #[.int .i64 r.f, .int .i64 r.b]] w fun e w' => e = .returned (.int .i64 (rc d.r r)) ∧ Ext w w' := by
  go_enter Tryd.func62, Tryd.ntmps62
  go_wp2_with (first | (first | (go_at_call 60; (with_reducible refine (iRangeCmp_rc d.r r _ h h').mono ?_); rintro _ _ ⟨rfl, x, rfl⟩)) | ((first | with_reducible refine wp_region_qe (by kernel_rfl) (by kernel_rfl) ?_ | with_reducible refine wp_region_q (by kernel_rfl) (by kernel_rfl) ?_); (repeat' (first | go_big_quiet_step ((first | (go_at_call 60; first | with_reducible exact Calls.qb (by assumption) (iRangeCmp_rc d.r r _ h h') | with_reducible exact Calls.q (iRangeCmp_rc d.r r _ h h')))) | (refine wpQuiet_split rfl rfl rfl rfl (fun hsp => ?_) (fun hsp => ?_); ((fail_if_success (cases hsp; done)); simp only [hsp]; (try first | have hsq : _ < _ := of_decide_eq_true hsp | have hsq : _ ≤ _ := of_decide_eq_true hsp | have hsq : ¬ _ < _ := of_decide_eq_false hsp | have hsq : ¬ _ ≤ _ := of_decide_eq_false hsp)); rotate_left; ((fail_if_success (cases hsp; done)); simp only [hsp]; (try first | have hsq : _ < _ := of_decide_eq_true hsp | have hsq : _ ≤ _ := of_decide_eq_true hsp | have hsq : ¬ _ < _ := of_decide_eq_false hsp | have hsq : ¬ _ ≤ _ := of_decide_eq_false hsp))))); (all_goals (refine wpQuiet_nil ?_; intro x))))
  go_ret
  exact ⟨rfl, (by repeat (first | with_reducible exact Ext.refl _ | with_reducible apply Ext.and | with_reducible apply Ext.drewx | with_reducible apply Ext.alloc | with_reducible apply Ext.ext | with_reducible apply Ext.drew | with_reducible refine Ext.setCell ?_ (by simp) _))⟩

set_option maxHeartbeats 1000000 in
theorem spotOf_any (a : Option Addr) (len cap : Nat) (t : List Rt) (r : Rg) (w : World) (h : SlRd w a len cap t) (hs : SortedT t) (hk : ∀ d ∈ t, rtOk d = true) (hl : len ≤ 1000000000) (hr : rok r.f r.b = true) :
    Calls Tryd.prog 33 #[.slice a len cap, .agg #[.int .i64 r.f, .int .i64 r.b]] w fun e w' => e = .returned (.tuple #[.int .i64 (posC (fun d => rc d.r r) t : Nat), .bool (atC (fun d => rc d.r r) t)]) ∧ Ext w w' := by
  go_enter Tryd.func33, Tryd.ntmps33
  go_wp2_with (first | (first | ((go_at_call 61; (with_reducible refine (bsf_Rt _ _ _ t r (fun d => rc d.r r) 62 _ (callBody Tryd.func62 (by kernel_rfl) (by kernel_rfl)) (h.stays ((by repeat (first | with_reducible exact Ext.refl _ | with_reducible apply Ext.and | with_reducible apply Ext.drewx | with_reducible apply Ext.alloc | with_reducible apply Ext.ext | with_reducible apply Ext.drew | with_reducible refine Ext.setCell ?_ (by simp) _)) : Ext _ _).below) (sortedT_mono hs r) (fun w' d _ _ _ _ _ _ _ hd _ _ => spotFn_any d r _ _ _ _ _ _ w' (rtOk_rok (hk d hd)) hr) hl).mono ?_); rintro _ _ ⟨rfl, x1, rfl⟩))) | ((first | with_reducible refine wp_region_qe (by kernel_rfl) (by kernel_rfl) ?_ | with_reducible refine wp_region_q (by kernel_rfl) (by kernel_rfl) ?_); (repeat' (first | go_big_quiet_step ((first | ((go_at_call 61; (with_reducible refine (bsf_Rt _ _ _ t r (fun d => rc d.r r) 62 _ (callBody Tryd.func62 (by kernel_rfl) (by kernel_rfl)) (h.stays ((by repeat (first | with_reducible exact Ext.refl _ | with_reducible apply Ext.and | with_reducible apply Ext.drewx | with_reducible apply Ext.alloc | with_reducible apply Ext.ext | with_reducible apply Ext.drew | with_reducible refine Ext.setCell ?_ (by simp) _)) : Ext _ _).below) (sortedT_mono hs r) (fun w' d _ _ _ _ _ _ _ hd _ _ => spotFn_any d r _ _ _ _ _ _ w' (rtOk_rok (hk d hd)) hr) hl).mono ?_); rintro _ _ ⟨rfl, x1, rfl⟩)))) | (refine wpQuiet_split rfl rfl rfl rfl (fun hsp => ?_) (fun hsp => ?_); ((fail_if_success (cases hsp; done)); simp only [hsp]; (try first | have hsq : _ < _ := of_decide_eq_true hsp | have hsq : _ ≤ _ := of_decide_eq_true hsp | have hsq : ¬ _ < _ := of_decide_eq_false hsp | have hsq : ¬ _ ≤ _ := of_decide_eq_false hsp)); rotate_left; ((fail_if_success (cases hsp; done)); simp only [hsp]; (try first | have hsq : _ < _ := of_decide_eq_true hsp | have hsq : _ ≤ _ := of_decide_eq_true hsp | have hsq : ¬ _ < _ := of_decide_eq_false hsp | have hsq : ¬ _ ≤ _ := of_decide_eq_false hsp))))); (all_goals (refine wpQuiet_nil ?_; intro x))))
  go_ret2
  exact ⟨by simp, (by repeat (first | with_reducible exact Ext.refl _ | with_reducible apply Ext.and | with_reducible apply Ext.drewx | with_reducible apply Ext.alloc | with_reducible apply Ext.ext | with_reducible apply Ext.drew | with_reducible refine Ext.setCell ?_ (by simp) _))⟩

set_option maxHeartbeats 1000000 in
theorem equalI_any (a : Option Addr) (len cap : Nat) (l : List Int) (a' : Option Addr) (len' cap' : Nat) (l' : List Int) (w : World) (h : SlRd w a len cap l) (h' : SlRd w a' len' cap' l') :
    Calls Tryd.prog 63 #[.slice a len cap, .slice a' len' cap'] w fun e w' => e = .returned (.bool (decide (l = l'))) ∧ Ext w w' := by
  have hm := h.2.2.1
  have hlc := h.2.1
  have hlen := h.1
  have hlen' := h'.1
  unfold maxLen at hm
  by_cases hne : len = len'
  · subst hne
    have HL : Hid (l.length = len) := hlen
    have HL' : Hid (l'.length = len) := hlen'
    clear hlen hlen'
    go_enter Tryd.func63, Tryd.ntmps63
    go_wp2_with fail
    go_loopw [13] (fun i wr => ∃ k : Nat, k ≤ len ∧ i = .int .i64 k ∧ Ext w wr ∧ Hid (l.take k = l'.take k)) (fun i _ => len - (intOf i).toNat)
    case atStart => exact ⟨0, Nat.zero_le _, rfl, Ext.refl _, rfl⟩
    case round =>
      obtain ⟨k, hk, rfl, hE, HT⟩ := hrel
      by_cases hlt : k < len
      · obtain ⟨d, dhd, db, doff, dys, rfl, dhys, dhcell, dhrd⟩ := h.at hE hlt
        obtain ⟨rfl, dg0⟩ := dhrd
        have dc0 : wr.cell? ⟨db, doff + k, none⟩ = some (.int .i64 d) := by have := dhcell 0 _ rfl; simpa [Lay.n] using this
        have dlb := cell_lt dc0
        have dHD := hidden dhd
        clear dhcell dhys dhd
        obtain ⟨d2, d2hd, d2b, d2off, d2ys, rfl, d2hys, d2hcell, d2hrd⟩ := h'.at hE hlt
        obtain ⟨rfl, d2g0⟩ := d2hrd
        have d2c0 : wr.cell? ⟨d2b, d2off + k, none⟩ = some (.int .i64 d2) := by have := d2hcell 0 _ rfl; simpa [Lay.n] using this
        have d2lb := cell_lt d2c0
        have d2HD := hidden d2hd
        clear d2hcell d2hys d2hd
        by_cases hdd : d = d2
        · subst hdd
          go_wp2_with (first | ((first | with_reducible refine wp_region_qe (by kernel_rfl) (by kernel_rfl) ?_ | with_reducible refine wp_region_q (by kernel_rfl) (by kernel_rfl) ?_); (repeat' (first | go_big_quiet_step (fail) | (refine wpQuiet_split rfl rfl rfl rfl (fun hsp => ?_) (fun hsp => ?_); ((fail_if_success (cases hsp; done)); simp only [hsp]; (try first | have hsq : _ < _ := of_decide_eq_true hsp | have hsq : _ ≤ _ := of_decide_eq_true hsp | have hsq : ¬ _ < _ := of_decide_eq_false hsp | have hsq : ¬ _ ≤ _ := of_decide_eq_false hsp)); rotate_left; ((fail_if_success (cases hsp; done)); simp only [hsp]; (try first | have hsq : _ < _ := of_decide_eq_true hsp | have hsq : _ ≤ _ := of_decide_eq_true hsp | have hsq : ¬ _ < _ := of_decide_eq_false hsp | have hsq : ¬ _ ≤ _ := of_decide_eq_false hsp))))); (all_goals (refine wpQuiet_nil ?_; intro x))))
          go_roundw
          case rel => exact ⟨k + 1, by omega, by go_num, (by first | exact hE | exact hE.ext _ | exact hE.trans (by repeat (first | with_reducible exact Ext.refl _ | with_reducible apply Ext.and | with_reducible apply Ext.drewx | with_reducible apply Ext.alloc | with_reducible apply Ext.ext | with_reducible apply Ext.drew | with_reducible refine Ext.setCell ?_ (by simp) _))), take_succ_eq HT.out dHD.out d2HD.out⟩
          case measure => simp [intOf]; omega
        · have hb : (d != d2) = true := by simpa using hdd
          go_wp2_with (first | ((first | with_reducible refine wp_region_qe (by kernel_rfl) (by kernel_rfl) ?_ | with_reducible refine wp_region_q (by kernel_rfl) (by kernel_rfl) ?_); (repeat' (first | go_big_quiet_step (fail) | (refine wpQuiet_split rfl rfl rfl rfl (fun hsp => ?_) (fun hsp => ?_); ((fail_if_success (cases hsp; done)); simp only [hsp]; (try first | have hsq : _ < _ := of_decide_eq_true hsp | have hsq : _ ≤ _ := of_decide_eq_true hsp | have hsq : ¬ _ < _ := of_decide_eq_false hsp | have hsq : ¬ _ ≤ _ := of_decide_eq_false hsp)); rotate_left; ((fail_if_success (cases hsp; done)); simp only [hsp]; (try first | have hsq : _ < _ := of_decide_eq_true hsp | have hsq : _ ≤ _ := of_decide_eq_true hsp | have hsq : ¬ _ < _ := of_decide_eq_false hsp | have hsq : ¬ _ ≤ _ := of_decide_eq_false hsp))))); (all_goals (refine wpQuiet_nil ?_; intro x))))
          go_ret
          exact ⟨ret_bool (by simpa using ne_at dHD.out d2HD.out hdd), (by first | exact hE | exact hE.ext _ | exact hE.trans (by repeat (first | with_reducible exact Ext.refl _ | with_reducible apply Ext.and | with_reducible apply Ext.drewx | with_reducible apply Ext.alloc | with_reducible apply Ext.ext | with_reducible apply Ext.drew | with_reducible refine Ext.setCell ?_ (by simp) _)))⟩
      · obtain rfl : k = len := by omega
        go_wp2_with (first | ((first | with_reducible refine wp_region_qe (by kernel_rfl) (by kernel_rfl) ?_ | with_reducible refine wp_region_q (by kernel_rfl) (by kernel_rfl) ?_); (repeat' (first | go_big_quiet_step (fail) | (refine wpQuiet_split rfl rfl rfl rfl (fun hsp => ?_) (fun hsp => ?_); ((fail_if_success (cases hsp; done)); simp only [hsp]; (try first | have hsq : _ < _ := of_decide_eq_true hsp | have hsq : _ ≤ _ := of_decide_eq_true hsp | have hsq : ¬ _ < _ := of_decide_eq_false hsp | have hsq : ¬ _ ≤ _ := of_decide_eq_false hsp)); rotate_left; ((fail_if_success (cases hsp; done)); simp only [hsp]; (try first | have hsq : _ < _ := of_decide_eq_true hsp | have hsq : _ ≤ _ := of_decide_eq_true hsp | have hsq : ¬ _ < _ := of_decide_eq_false hsp | have hsq : ¬ _ ≤ _ := of_decide_eq_false hsp))))); (all_goals (refine wpQuiet_nil ?_; intro x))))
        go_ret
        exact ⟨ret_bool (by simpa using eq_take HT.out HL.out HL'.out), (by first | exact hE | exact hE.ext _ | exact hE.trans (by repeat (first | with_reducible exact Ext.refl _ | with_reducible apply Ext.and | with_reducible apply Ext.drewx | with_reducible apply Ext.alloc | with_reducible apply Ext.ext | with_reducible apply Ext.drew | with_reducible refine Ext.setCell ?_ (by simp) _)))⟩
  · have hb : ((len : Int) != (len' : Int)) = true := by simpa using (by omega : ¬ (len : Int) = len')
    go_enter Tryd.func63, Tryd.ntmps63
    go_wp2_with (first | ((first | with_reducible refine wp_region_qe (by kernel_rfl) (by kernel_rfl) ?_ | with_reducible refine wp_region_q (by kernel_rfl) (by kernel_rfl) ?_); (repeat' (first | go_big_quiet_step (fail) | (refine wpQuiet_split rfl rfl rfl rfl (fun hsp => ?_) (fun hsp => ?_); ((fail_if_success (cases hsp; done)); simp only [hsp]; (try first | have hsq : _ < _ := of_decide_eq_true hsp | have hsq : _ ≤ _ := of_decide_eq_true hsp | have hsq : ¬ _ < _ := of_decide_eq_false hsp | have hsq : ¬ _ ≤ _ := of_decide_eq_false hsp)); rotate_left; ((fail_if_success (cases hsp; done)); simp only [hsp]; (try first | have hsq : _ < _ := of_decide_eq_true hsp | have hsq : _ ≤ _ := of_decide_eq_true hsp | have hsq : ¬ _ < _ := of_decide_eq_false hsp | have hsq : ¬ _ ≤ _ := of_decide_eq_false hsp))))); (all_goals (refine wpQuiet_nil ?_; intro x))))
    go_ret
    exact ⟨ret_bool (by simpa using (fun e : l = l' => hne (by rw [← hlen, ← hlen', e]))), Ext.refl _⟩

set_option maxHeartbeats 1000000 in
theorem sameRoute_any (d e : Rt) (a1 : Option Addr) (n1 c1 : Nat) (a2 : Option Addr) (n2 c2 : Nat) (b1 : Option Addr) (m1 k1 : Nat) (b2 : Option Addr) (m2 k2 : Nat) (w : World) (h1 : SlRd w a1 n1 c1 d.path) (h2 : SlRd w a2 n2 c2 d.marks) (g1 : SlRd w b1 m1 k1 e.path) (g2 : SlRd w b2 m2 k2 e.marks) :
    Calls Tryd.prog 34 #[.agg #[.int .i64 d.r.f, .int .i64 d.r.b, .slice a1 n1 c1, .int .i64 d.like, .slice a2 n2 c2], .agg #[.int .i64 e.r.f, .int .i64 e.r.b, .slice b1 m1 k1, .int .i64 e.like, .slice b2 m2 k2]] w fun x w' => x = .returned (.bool (decide (d = e))) ∧ Ext w w' := by
  have heq : ∀ w', (binOp .eql 36 (.agg #[.int .i64 d.r.f, .int .i64 d.r.b]) (.agg #[.int .i64 e.r.f, .int .i64 e.r.b])).run Tryd.prog w' = .ok (.bool (decide (d.r = e.r))) w' := fun w' => eqS_Rg d.r e.r w'
  have tk := True.intro
  have HD := hidden (Rt_eq d e)
  cases q1 : decide (d.r = e.r) <;> cases q2 : decide (d.like = e.like) <;> cases q3 : decide (d.path = e.path)
  all_goals
    have q2' : (d.like == e.like) = _ := q2
    try rw [q1] at heq
    go_enter Tryd.func34, Tryd.ntmps34
    go_wp2_with (first | (first | ((go_at_call 63; have _t := tk; (with_reducible refine (equalI_any _ _ _ d.path _ _ _ e.path _ (h1.stays ((by repeat (first | with_reducible exact Ext.refl _ | with_reducible apply Ext.and | with_reducible apply Ext.drewx | with_reducible apply Ext.alloc | with_reducible apply Ext.ext | with_reducible apply Ext.drew | with_reducible refine Ext.setCell ?_ (by simp) _)) : Ext _ _).below) (g1.stays ((by repeat (first | with_reducible exact Ext.refl _ | with_reducible apply Ext.and | with_reducible apply Ext.drewx | with_reducible apply Ext.alloc | with_reducible apply Ext.ext | with_reducible apply Ext.drew | with_reducible refine Ext.setCell ?_ (by simp) _)) : Ext _ _).below)).mono ?_); rintro _ _ ⟨rfl, z1, rfl⟩; clear tk _t; (try rw [q3]))) | (go_at_call 63; (with_reducible refine (equalI_any _ _ _ d.marks _ _ _ e.marks _ (h2.stays ((by repeat (first | with_reducible exact Ext.refl _ | with_reducible apply Ext.and | with_reducible apply Ext.drewx | with_reducible apply Ext.alloc | with_reducible apply Ext.ext | with_reducible apply Ext.drew | with_reducible refine Ext.setCell ?_ (by simp) _)) : Ext _ _).below) (g2.stays ((by repeat (first | with_reducible exact Ext.refl _ | with_reducible apply Ext.and | with_reducible apply Ext.drewx | with_reducible apply Ext.alloc | with_reducible apply Ext.ext | with_reducible apply Ext.drew | with_reducible refine Ext.setCell ?_ (by simp) _)) : Ext _ _).below)).mono ?_); rintro _ _ ⟨rfl, x, rfl⟩)) | ((first | with_reducible refine wp_region_qe (by kernel_rfl) (by kernel_rfl) ?_ | with_reducible refine wp_region_q (by kernel_rfl) (by kernel_rfl) ?_); (repeat' (first | go_big_quiet_step ((first | ((go_at_call 63; have _t := tk; (with_reducible refine (equalI_any _ _ _ d.path _ _ _ e.path _ (h1.stays ((by repeat (first | with_reducible exact Ext.refl _ | with_reducible apply Ext.and | with_reducible apply Ext.drewx | with_reducible apply Ext.alloc | with_reducible apply Ext.ext | with_reducible apply Ext.drew | with_reducible refine Ext.setCell ?_ (by simp) _)) : Ext _ _).below) (g1.stays ((by repeat (first | with_reducible exact Ext.refl _ | with_reducible apply Ext.and | with_reducible apply Ext.drewx | with_reducible apply Ext.alloc | with_reducible apply Ext.ext | with_reducible apply Ext.drew | with_reducible refine Ext.setCell ?_ (by simp) _)) : Ext _ _).below)).mono ?_); rintro _ _ ⟨rfl, z1, rfl⟩; clear tk _t; (try rw [q3]))) | (go_at_call 63; first | with_reducible exact Calls.qb (by assumption) (equalI_any _ _ _ d.marks _ _ _ e.marks _ (h2.stays ((by repeat (first | with_reducible exact Ext.refl _ | with_reducible apply Ext.and | with_reducible apply Ext.drewx | with_reducible apply Ext.alloc | with_reducible apply Ext.ext | with_reducible apply Ext.drew | with_reducible refine Ext.setCell ?_ (by simp) _)) : Ext _ _).below) (g2.stays ((by repeat (first | with_reducible exact Ext.refl _ | with_reducible apply Ext.and | with_reducible apply Ext.drewx | with_reducible apply Ext.alloc | with_reducible apply Ext.ext | with_reducible apply Ext.drew | with_reducible refine Ext.setCell ?_ (by simp) _)) : Ext _ _).below)) | with_reducible exact Calls.q (equalI_any _ _ _ d.marks _ _ _ e.marks _ (h2.stays ((by repeat (first | with_reducible exact Ext.refl _ | with_reducible apply Ext.and | with_reducible apply Ext.drewx | with_reducible apply Ext.alloc | with_reducible apply Ext.ext | with_reducible apply Ext.drew | with_reducible refine Ext.setCell ?_ (by simp) _)) : Ext _ _).below) (g2.stays ((by repeat (first | with_reducible exact Ext.refl _ | with_reducible apply Ext.and | with_reducible apply Ext.drewx | with_reducible apply Ext.alloc | with_reducible apply Ext.ext | with_reducible apply Ext.drew | with_reducible refine Ext.setCell ?_ (by simp) _)) : Ext _ _).below))))) | (refine wpQuiet_split rfl rfl rfl rfl (fun hsp => ?_) (fun hsp => ?_); ((fail_if_success (cases hsp; done)); simp only [hsp]; (try first | have hsq : _ < _ := of_decide_eq_true hsp | have hsq : _ ≤ _ := of_decide_eq_true hsp | have hsq : ¬ _ < _ := of_decide_eq_false hsp | have hsq : ¬ _ ≤ _ := of_decide_eq_false hsp)); rotate_left; ((fail_if_success (cases hsp; done)); simp only [hsp]; (try first | have hsq : _ < _ := of_decide_eq_true hsp | have hsq : _ ≤ _ := of_decide_eq_true hsp | have hsq : ¬ _ < _ := of_decide_eq_false hsp | have hsq : ¬ _ ≤ _ := of_decide_eq_false hsp))))); (all_goals (refine wpQuiet_nil ?_; intro x))) | ((first | with_reducible refine wp_region_seqe (by kernel_rfl) (by kernel_rfl) ?_ | with_reducible refine wp_region_seqw (by kernel_rfl) (by kernel_rfl) ?_); (repeat' (first | ((with_reducible refine wpSeq_pure (by with_unfolding_all rfl) (fun Kq hKq => ?_)); (repeat' (first | go_big_quiet_step (fail) | (refine wpQuiet_split rfl rfl rfl rfl (fun hsp => ?_) (fun hsp => ?_); ((fail_if_success (cases hsp; done)); simp only [hsp]; (try first | have hsq : _ < _ := of_decide_eq_true hsp | have hsq : _ ≤ _ := of_decide_eq_true hsp | have hsq : ¬ _ < _ := of_decide_eq_false hsp | have hsq : ¬ _ ≤ _ := of_decide_eq_false hsp)); rotate_left; ((fail_if_success (cases hsp; done)); simp only [hsp]; (try first | have hsq : _ < _ := of_decide_eq_true hsp | have hsq : _ ≤ _ := of_decide_eq_true hsp | have hsq : ¬ _ < _ := of_decide_eq_false hsp | have hsq : ¬ _ ≤ _ := of_decide_eq_false hsp))))); (all_goals (refine wpQuiet_nil ?_; refine hKq _ ?_; clear hKq Kq))) | ((with_reducible refine wpSeq_act (by with_unfolding_all rfl) (fun Q' hQ' => ?_)); (go_wp2_with (first | ((go_at_call 63; have _t := tk; (with_reducible refine (equalI_any _ _ _ d.path _ _ _ e.path _ (h1.stays ((by repeat (first | with_reducible exact Ext.refl _ | with_reducible apply Ext.and | with_reducible apply Ext.drewx | with_reducible apply Ext.alloc | with_reducible apply Ext.ext | with_reducible apply Ext.drew | with_reducible refine Ext.setCell ?_ (by simp) _)) : Ext _ _).below) (g1.stays ((by repeat (first | with_reducible exact Ext.refl _ | with_reducible apply Ext.and | with_reducible apply Ext.drewx | with_reducible apply Ext.alloc | with_reducible apply Ext.ext | with_reducible apply Ext.drew | with_reducible refine Ext.setCell ?_ (by simp) _)) : Ext _ _).below)).mono ?_); rintro _ _ ⟨rfl, z1, rfl⟩; clear tk _t; (try rw [q3]))) | (go_at_call 63; (with_reducible refine (equalI_any _ _ _ d.marks _ _ _ e.marks _ (h2.stays ((by repeat (first | with_reducible exact Ext.refl _ | with_reducible apply Ext.and | with_reducible apply Ext.drewx | with_reducible apply Ext.alloc | with_reducible apply Ext.ext | with_reducible apply Ext.drew | with_reducible refine Ext.setCell ?_ (by simp) _)) : Ext _ _).below) (g2.stays ((by repeat (first | with_reducible exact Ext.refl _ | with_reducible apply Ext.and | with_reducible apply Ext.drewx | with_reducible apply Ext.alloc | with_reducible apply Ext.ext | with_reducible apply Ext.drew | with_reducible refine Ext.setCell ?_ (by simp) _)) : Ext _ _).below)).mono ?_); rintro _ _ ⟨rfl, x, rfl⟩))); (all_goals (refine hQ' _ _ rfl ?_ ?_; (change Ext _ _; exact (by repeat (first | with_reducible exact Ext.refl _ | with_reducible apply Ext.and | with_reducible apply Ext.drewx | with_reducible apply Ext.alloc | with_reducible apply Ext.ext | with_reducible apply Ext.drew | with_reducible refine Ext.setCell ?_ (by simp) _))); clear hQ' Q'))))); (all_goals ((with_reducible refine wpSeq_nil ?_)))))
    go_ret
    exact ⟨ret_bool (by have := HD.out; simp_all), (by repeat (first | with_reducible exact Ext.refl _ | with_reducible apply Ext.and | with_reducible apply Ext.drewx | with_reducible apply Ext.alloc | with_reducible apply Ext.ext | with_reducible apply Ext.drew | with_reducible refine Ext.setCell ?_ (by simp) _))⟩

end Go.Proofs.YtlehcnfmagjilaaDoor
